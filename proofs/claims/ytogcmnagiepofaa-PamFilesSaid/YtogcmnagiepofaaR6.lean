/- Words as numbers: the program's Num. -/
import Derived.Test.YtogcmnagiepofaaM5
import Derived.Test.YtogcmnagiepofaaM6
import Derived.Deep.DeepCutAuto
namespace Go.Proofs.Ytogcmnagiepofaa
set_option linter.unusedVariables false
open Go Go.RowKit

theorem decD_len {m : Nat} (h : m < 100000000000000000000) : (decD m).length ≤ 20 := by
  unfold decD
  split
  · simp
  · rw [List.length_reverse]
    exact dig_len_le (by decide) (Nat.lt_of_lt_of_le h (by decide))

theorem Row.sub {w : World} {B e g : Nat} {R : List Nat} (h : w.ownsRow B e 1 (.slice (some ⟨g, 0, none⟩) 20 20) 20 (ints .u8 R)) (p : Nat) (hp : p ≤ 20) :
    Sl w (some ⟨g, p, none⟩) (20 - p) (20 - p) (ints .u8 (R.drop p)) := by
  have hl := Row.len h
  refine ⟨by rw [ints_len]; simp; omega, Nat.le_refl _, by unfold maxLen; omega, fun h0 => ⟨g, p, rfl, fun i u hu => ?_⟩⟩
  have hi : i < (R.drop p).length := by
    have := (List.getElem?_eq_some_iff.1 hu).1
    rw [ints_len] at this; exact this
  rw [ints_get .u8 _ i hi] at hu
  rw [← hu]
  have hi2 : p + i < R.length := by simp at hi; omega
  have := Row.cell h (p + i) hi2
  rw [this]
  simp

/-- A number's letters. -/
def numL (n : Int) : List Nat := (if n < 0 then [45] else []) ++ (decD n.natAbs).map (48 + ·)
theorem decD_le (m : Nat) : ∀ d ∈ decD m, d ≤ 9 := by
  unfold decD
  split
  · simp
  · intro d hd
    rw [List.mem_reverse] at hd
    have := dig_lt (B := 10) (by decide) m d hd
    omega
theorem textZ_eq (n : Int) : textZ n = bytesOf (numL n) := by
  unfold textZ numL decS
  have h : ∀ m, decB (decD m) = bytesOf ((decD m).map (48 + ·)) := by
    intro m
    simp [decB, bytesOf, Function.comp_def]
  split
  · rw [h]
    apply ByteArray.ext
    simp [bytesOf]
  · rw [h]
    simp
theorem numL_le (n : Int) : ∀ c ∈ numL n, c ≤ 255 := by
  intro c hc
  unfold numL at hc
  rcases List.mem_append.1 hc with hc | hc
  · split at hc
    · simp at hc; omega
    · simp at hc
  · simp only [List.mem_map] at hc
    obtain ⟨d, hd, rfl⟩ := hc
    have := decD_le _ d hd
    omega

theorem num_slice (w : World) (g p : Nat) (hp : p < 20) :
    (Instr.sliceAt 187 (.pointer (some ⟨g, 0, none⟩)) (some (.int .i64 (p : Int))) none none).run Try.prog w = .ok (.slice (some ⟨g, p, none⟩) (20 - p) (20 - p)) w := by
  have e1 : Try.prog.arrayLen 187 = 20 := by kernel_rfl
  have h := run_sliceAt_array_l (P := Try.prog) w 187 ⟨g, 0, none⟩ (by kernel_rfl) .i64 (p : Int) (by omega) (by rw [e1]; omega)
  rw [h, e1]
  have e2 : ∀ u, (sizeOf (Try.prog.elem 187)).run Try.prog u = .ok 1 u := fun _ => by kernel_rfl
  rw [e2]
  simp only [Result.andThen_ok, slicedAt, Int.toNat_natCast]
  rw [if_neg (by omega)]
  unfold Addr.add
  by_cases hz : p = 0
  · subst hz; simp
  · simp [hz]

set_option maxRecDepth 100000 in
set_option maxHeartbeats 2000000 in
theorem f_Num_any (n : Int) (w : World) (h1 : -9223372036854775808 ≤ n) (h2 : n ≤ 9223372036854775807) :
    Calls Try.prog 135 #[.int .i64 n] w fun e w' => e = .returned (.string (textZ n)) ∧ Ext w w' := by
  rw [textZ_eq]
  have hDl := decD_len (m := n.natAbs) (by omega)
  have hDl19 : (decD n.natAbs).length ≤ 19 := by
    unfold decD
    split
    · simp
    · rw [List.length_reverse]
      exact dig_len_le (by decide) (Nat.lt_of_le_of_lt (by omega : n.natAbs ≤ 9223372036854775808) (by decide))
  have hNL : numL n = (if n < 0 then [45] else []) ++ (decD n.natAbs).map (48 + ·) := rfl
  have hle := numL_le n
  generalize numL n = NL at *
  obtain ⟨D, hD⟩ : ∃ D, D = decD n.natAbs := ⟨_, rfl⟩
  rw [← hD] at hNL hDl19
  have HD := hidP hD
  have HNL := hidP hNL; have HLE := hidP hle; have HL19 := hidP hDl19
  clear hD hNL hle hDl hDl19
  go_enter Try.func135, Try.ntmps135
  have hrow : (w.alloc (.cells #[.int .u8 0, .int .u8 0, .int .u8 0, .int .u8 0, .int .u8 0, .int .u8 0, .int .u8 0, .int .u8 0, .int .u8 0, .int .u8 0, .int .u8 0, .int .u8 0, .int .u8 0, .int .u8 0, .int .u8 0, .int .u8 0, .int .u8 0, .int .u8 0, .int .u8 0, .int .u8 0] 187)).ownsRow w.heap.size 187 1 (.slice (some ⟨w.heap.size, 0, none⟩) 20 20) 20 (ints .u8 (List.replicate 20 0)) := 
    World.ownsRow_lit (base := w.heap.size) (size := 1) w _ 20 (Nat.le_refl _) (by unfold maxLen; omega) rfl
  have HROW := hidP hrow; clear hrow
  by_cases hn : n < 0
  · obtain ⟨m, hm⟩ : ∃ m : Nat, n = -(m : Int) := ⟨n.natAbs, by omega⟩
    subst hm
    go_wp2_with fail
    have ew : IntKind.u64.wrap (-IntKind.u64.wrap (-(m : Int))) = (m : Int) := by rw [IntKind.wrap_u64, IntKind.wrap_u64]; omega
    rw [ew]
    clear ew
    have hna : (-(m : Int)).natAbs = m := by omega
    rw [hna] at HD
    clear hna
    have he0 : Ext w (w.alloc (.cells #[.int .u8 0, .int .u8 0, .int .u8 0, .int .u8 0, .int .u8 0, .int .u8 0, .int .u8 0, .int .u8 0, .int .u8 0, .int .u8 0, .int .u8 0, .int .u8 0, .int .u8 0, .int .u8 0, .int .u8 0, .int .u8 0, .int .u8 0, .int .u8 0, .int .u8 0, .int .u8 0] 187)) := (Ext.refl _).alloc _
    have hr0 := HROW.out
    clear HROW
    generalize w.alloc (.cells #[.int .u8 0, .int .u8 0, .int .u8 0, .int .u8 0, .int .u8 0, .int .u8 0, .int .u8 0, .int .u8 0, .int .u8 0, .int .u8 0, .int .u8 0, .int .u8 0, .int .u8 0, .int .u8 0, .int .u8 0, .int .u8 0, .int .u8 0, .int .u8 0, .int .u8 0, .int .u8 0] 187) = w0 at *
    go_loopw [4, 5] (fun av rv wr => ∃ (p rest : Nat) (s R : List Nat), av = .int .i64 (p : Int) ∧ rv = .int .u64 (rest : Int) ∧ rest ≤ 9223372036854775808 ∧ wr.ownsRow w.heap.size 187 1 (.slice (some ⟨w.heap.size, 0, none⟩) 20 20) 20 (ints .u8 R) ∧ Ext w wr ∧ decD rest ++ s = D ∧ p + s.length = 20 ∧ R.drop p = s.map (48 + ·)) (fun av _ _ => (intOf av).toNat)
    case atStart => exact ⟨20, m, [], List.replicate 20 0, rfl, rfl, by omega, hr0, he0, by rw [HD.out]; simp, rfl, by simp⟩
    case round =>
      clear hr0 he0
      obtain ⟨p, rest, s, R, rfl, rfl, hrb, hrow, he, hv, hps, hdr⟩ := hrel
      have hrl := Row.len hrow
      have hs19 : s.length < D.length := by
        have h3 := congrArg List.length hv
        rw [List.length_append] at h3
        have h4 : 0 < (decD rest).length := by
          by_cases h : rest < 10
          · rw [decD_small h]; simp
          · rw [decD_step (by omega)]; simp
        omega
      have h19 := HL19.out
      obtain ⟨q, rfl⟩ : ∃ q, p = q + 1 := ⟨p - 1, by omega⟩
      have hq1 : 1 ≤ q := by omega
      have hq20 : q < 20 := by omega
      have hcell := Row.cell hrow q (by omega)
      have hfree := Row.free hrow q
      have hst := Row.store hrow q (48 + rest % 10)
      have he2 := he.store (p := ⟨w.heap.size, q, none⟩) (Nat.le_refl _) (.int .u8 ((48 + rest % 10 : Nat) : Int))
      have hdr2 : (R.set q (48 + rest % 10)).drop q = ([rest % 10] ++ s).map (48 + ·) := by
        rw [List.drop_eq_getElem_cons (by rw [List.length_set]; omega), List.getElem_set_self, List.drop_set_of_lt (by omega), hdr]
        rfl
      have ew : (48 + (rest : Int) % 10) = ((48 + rest % 10 : Nat) : Int) := by omega
      have hd9 : rest % 10 ≤ 9 := by omega
      have hdi : (rest : Int) % 10 = ((rest % 10 : Nat) : Int) := by omega
      have hqi : (rest : Int) / 10 = ((rest / 10 : Nat) : Int) := by omega
      have hst1 : rest / 10 = 0 → [rest % 10] ++ s = D := fun h => by
        have h5 : rest < 10 := by omega
        rw [← hv, decD_small h5, Nat.mod_eq_of_lt h5]
      have hst2 : rest / 10 ≠ 0 → decD (rest / 10) ++ ([rest % 10] ++ s) = D := fun h => by
        rw [← hv, decD_step (n := rest) (by omega)]
        simp
      obtain ⟨old, hold⟩ : ∃ old, wr.cell? ⟨w.heap.size, q, none⟩ = some old := ⟨_, hcell⟩
      clear hcell
      have HST := hidP hst; have HE2 := hidP he2; have HDR := hidP hdr2; have EW := hidP ew; have HT1 := hidP hst1; have HT2 := hidP hst2
      have HPS := hidP hps; have HI := hidP (And.intro hdi hqi)
      clear hst he2 hdr2 ew hst1 hst2 hv hps hdr hrl hs19 h19 hrow he hdi hqi
      by_cases hz : rest / 10 = 0
      · have hz1 : ((rest : Int) / 10 == 0) = true := by simp; omega
        have hD1 := HT1.out hz
        go_upto_region 10 with fail
        have hrow2 := HST.out
        have he2 := HE2.out
        have hdr2 := HDR.out
        rw [EW.out]
        rw [hD1] at hdr2
        clear HST HE2 HDR HT1 HT2 EW hold hfree hz hz1 HI HPS hD1
        generalize wr.setCell ⟨w.heap.size, q, none⟩ (.int .u8 ((48 + rest % 10 : Nat) : Int)) = w5 at *
        generalize R.set q (48 + rest % 10) = R5 at *
        have hrl := Row.len hrow2
        obtain ⟨q', rfl⟩ : ∃ q', q = q' + 1 := ⟨q - 1, by omega⟩
        have hq5 : (q' : Int) < 20 := by omega
        have hc2 := Row.cell hrow2 q' (by omega)
        have hfree := Row.free hrow2 q'
        have hrow3 : (w5.setCell ⟨w.heap.size, q', none⟩ (.int .u8 45)).ownsRow w.heap.size 187 1 (.slice (some ⟨w.heap.size, 0, none⟩) 20 20) 20 (ints .u8 (R5.set q' 45)) := Row.store hrow2 q' 45
        have he3 : Ext w (w5.setCell ⟨w.heap.size, q', none⟩ (.int .u8 45)) := he2.store (Nat.le_refl _) _
        have hfin : (R5.set q' 45).drop q' = NL := by
          rw [List.drop_eq_getElem_cons (by rw [List.length_set]; omega), List.getElem_set_self, List.drop_set_of_lt (by omega), hdr2, HNL.out, if_pos hn]
          rfl
        obtain ⟨old, hold⟩ : ∃ old, w5.cell? ⟨w.heap.size, q', none⟩ = some old := ⟨_, hc2⟩
        have HROW3 := hidP hrow3; have HE3 := hidP he3; have HFIN := hidP hfin
        clear hc2 hrow3 he3 hfin hrow2 he2 hdr2 hrl
        go_upto_region 13 with fail
        have hrow3 := HROW3.out
        have he3 := HE3.out
        clear HROW3 HE3 hold hfree
        generalize w5.setCell ⟨w.heap.size, q', none⟩ (.int .u8 45) = w6 at *
        have hsub := Row.sub hrow3 q' (by omega)
        rw [HFIN.out] at hsub
        have hst := str_of hsub HLE.out
        have hsl := num_slice w6 w.heap.size q' (by omega)
        clear hsub hrow3
        go_wp2_with fail
        go_ret
        exact ⟨rfl, he3⟩
      · have hz1 : ((rest : Int) / 10 == 0) = false := by simp; omega
        go_wp2_with fail
        have hrow2 := HST.out
        have he2 := HE2.out
        rw [← EW.out] at hrow2 he2
        go_roundw
        case rel => exact ⟨q, rest / 10, [rest % 10] ++ s, _, rfl, by rw [HI.out.2], by omega, hrow2, he2, HT2.out hz, by have := HPS.out; simp; omega, HDR.out⟩
        case measure => simp only [intOf]; omega
  · obtain ⟨m, hm⟩ : ∃ m : Nat, n = (m : Int) := ⟨n.toNat, by omega⟩
    subst hm
    go_wp2_with fail
    have hna : ((m : Int)).natAbs = m := by omega
    rw [hna] at HD
    clear hna
    try rw [show IntKind.u64.wrap (m : Int) = (m : Int) by rw [IntKind.wrap_u64]; omega]
    have he0 : Ext w (w.alloc (.cells #[.int .u8 0, .int .u8 0, .int .u8 0, .int .u8 0, .int .u8 0, .int .u8 0, .int .u8 0, .int .u8 0, .int .u8 0, .int .u8 0, .int .u8 0, .int .u8 0, .int .u8 0, .int .u8 0, .int .u8 0, .int .u8 0, .int .u8 0, .int .u8 0, .int .u8 0, .int .u8 0] 187)) := (Ext.refl _).alloc _
    have hr0 := HROW.out
    clear HROW
    generalize w.alloc (.cells #[.int .u8 0, .int .u8 0, .int .u8 0, .int .u8 0, .int .u8 0, .int .u8 0, .int .u8 0, .int .u8 0, .int .u8 0, .int .u8 0, .int .u8 0, .int .u8 0, .int .u8 0, .int .u8 0, .int .u8 0, .int .u8 0, .int .u8 0, .int .u8 0, .int .u8 0, .int .u8 0] 187) = w0 at *
    go_loopw [4, 5] (fun av rv wr => ∃ (p rest : Nat) (s R : List Nat), av = .int .i64 (p : Int) ∧ rv = .int .u64 (rest : Int) ∧ rest ≤ 9223372036854775808 ∧ wr.ownsRow w.heap.size 187 1 (.slice (some ⟨w.heap.size, 0, none⟩) 20 20) 20 (ints .u8 R) ∧ Ext w wr ∧ decD rest ++ s = D ∧ p + s.length = 20 ∧ R.drop p = s.map (48 + ·)) (fun av _ _ => (intOf av).toNat)
    case atStart => exact ⟨20, m, [], List.replicate 20 0, rfl, rfl, by omega, hr0, he0, by rw [HD.out]; simp, rfl, by simp⟩
    case round =>
      clear hr0 he0
      obtain ⟨p, rest, s, R, rfl, rfl, hrb, hrow, he, hv, hps, hdr⟩ := hrel
      have hrl := Row.len hrow
      have hs19 : s.length < D.length := by
        have h3 := congrArg List.length hv
        rw [List.length_append] at h3
        have h4 : 0 < (decD rest).length := by
          by_cases h : rest < 10
          · rw [decD_small h]; simp
          · rw [decD_step (by omega)]; simp
        omega
      have h19 := HL19.out
      obtain ⟨q, rfl⟩ : ∃ q, p = q + 1 := ⟨p - 1, by omega⟩
      have hq1 : 1 ≤ q := by omega
      have hq20 : q < 20 := by omega
      have hcell := Row.cell hrow q (by omega)
      have hfree := Row.free hrow q
      have hst := Row.store hrow q (48 + rest % 10)
      have he2 := he.store (p := ⟨w.heap.size, q, none⟩) (Nat.le_refl _) (.int .u8 ((48 + rest % 10 : Nat) : Int))
      have hdr2 : (R.set q (48 + rest % 10)).drop q = ([rest % 10] ++ s).map (48 + ·) := by
        rw [List.drop_eq_getElem_cons (by rw [List.length_set]; omega), List.getElem_set_self, List.drop_set_of_lt (by omega), hdr]
        rfl
      have ew : (48 + (rest : Int) % 10) = ((48 + rest % 10 : Nat) : Int) := by omega
      have hd9 : rest % 10 ≤ 9 := by omega
      have hdi : (rest : Int) % 10 = ((rest % 10 : Nat) : Int) := by omega
      have hqi : (rest : Int) / 10 = ((rest / 10 : Nat) : Int) := by omega
      have hst1 : rest / 10 = 0 → [rest % 10] ++ s = D := fun h => by
        have h5 : rest < 10 := by omega
        rw [← hv, decD_small h5, Nat.mod_eq_of_lt h5]
      have hst2 : rest / 10 ≠ 0 → decD (rest / 10) ++ ([rest % 10] ++ s) = D := fun h => by
        rw [← hv, decD_step (n := rest) (by omega)]
        simp
      obtain ⟨old, hold⟩ : ∃ old, wr.cell? ⟨w.heap.size, q, none⟩ = some old := ⟨_, hcell⟩
      clear hcell
      have HST := hidP hst; have HE2 := hidP he2; have HDR := hidP hdr2; have EW := hidP ew; have HT1 := hidP hst1; have HT2 := hidP hst2
      have HPS := hidP hps; have HI := hidP (And.intro hdi hqi)
      clear hst he2 hdr2 ew hst1 hst2 hv hps hdr hrl hs19 h19 hrow he hdi hqi
      by_cases hz : rest / 10 = 0
      · have hz1 : ((rest : Int) / 10 == 0) = true := by simp; omega
        have hD1 := HT1.out hz
        go_upto_region 10 with fail
        have hrow2 := HST.out
        have he2 := HE2.out
        have hdr2 := HDR.out
        rw [EW.out]
        rw [hD1] at hdr2
        clear HST HE2 HDR HT1 HT2 EW hold hfree hz hz1 HI HPS hD1
        generalize wr.setCell ⟨w.heap.size, q, none⟩ (.int .u8 ((48 + rest % 10 : Nat) : Int)) = w5 at *
        generalize R.set q (48 + rest % 10) = R5 at *
        have hrl := Row.len hrow2
        have hq5 : (q : Int) < 20 := by omega
        have hfin : R5.drop q = NL := by
          rw [hdr2, HNL.out, if_neg (show ¬ ((m : Int) < 0) by omega)]
          rfl
        have hsub := Row.sub hrow2 q (by omega)
        rw [hfin] at hsub
        have HSUB := hidP hsub; have HE2 := hidP he2
        clear hsub hrow2 he2 hdr2 hrl hfin
        go_upto_region 13 with fail
        have hst := str_of HSUB.out HLE.out
        have hsl := num_slice w5 w.heap.size q (by omega)
        clear HSUB
        go_wp2_with fail
        go_ret
        exact ⟨rfl, HE2.out⟩
      · have hz1 : ((rest : Int) / 10 == 0) = false := by simp; omega
        go_wp2_with fail
        have hrow2 := HST.out
        have he2 := HE2.out
        rw [← EW.out] at hrow2 he2
        go_roundw
        case rel => exact ⟨q, rest / 10, [rest % 10] ++ s, _, rfl, by rw [HI.out.2], by omega, hrow2, he2, HT2.out hz, by have := HPS.out; simp; omega, HDR.out⟩
        case measure => simp only [intOf]; omega

end Go.Proofs.Ytogcmnagiepofaa
