/- The law of rows of words: its walk. -/
import Derived.Test.YtbhjookpdmfdnaaDoorE12
namespace Go.Proofs.YtbhjookpdmfdnaaDoor
set_option linter.unusedVariables false
open Go Go.RowKit

set_option maxRecDepth 100000 in
set_option maxHeartbeats 2000000 in
theorem f_Words_any (a : Option Addr) (n cap : Nat) (zs : List Int) (w : World) (hs : Sl w a n cap (intsZ zs)) (hz : ∀ z ∈ zs, -9223372036854775808 ≤ z ∧ z ≤ 9223372036854775807) (hn : n ≤ 1048576) :
    Calls Tryd.prog 23 #[.slice a n cap] w (RetSl w (strs (zs.map textZ))) := by
  have hln : zs.length = n := by have := hs.1; simpa [intsZ] using this
  have hr : ∀ z u, z ∈ zs → Calls Tryd.prog 9 #[.int .i64 z] u fun e w' => e = .returned (.string (textZ z)) ∧ Ext u w' := fun z u h => f_Num_any z u (hz z h).1 (hz z h).2
  have HR := hidP hr; have HLN := hidP hln
  clear hr hln hz
  go_enter Tryd.func23, Tryd.ntmps23
  go_wp2_with (at_make; refine wpList_make0W (W := w) (n := n) T_str rfl _ _ rfl rfl rfl (Ext.refl _) (by omega) (by omega) ?_; intro v' hown he)
  go_loopw [3, 11] (fun v i wr => ∃ k : Nat, k ≤ n ∧ i = .int .i64 (k : Int) ∧ wr.ownsRow w.heap.size 9 1 v k (strs ((zs.take k).map textZ)) ∧ Ext w wr) (fun _ i _ => n - (intOf i).toNat)
  case atStart => exact ⟨0, by omega, rfl, by simpa [strs] using hown, he⟩
  case round =>
    clear hown he
    obtain ⟨k, hk, rfl, hown, he⟩ := hrel
    by_cases h0 : k < n
    · obtain ⟨b, off, u, rfl, hu, hc⟩ := (hs.ext he).cell_at k h0
      obtain ⟨z, hsk, rfl⟩ : ∃ z, zs[k]? = some z ∧ u = .int .i64 z := by
        simp only [intsZ, List.getElem?_map, Option.map_eq_some_iff] at hu
        obtain ⟨s, h1, h2⟩ := hu
        exact ⟨s, h1, h2.symm⟩
      have HMEM := hidP (List.mem_of_getElem? hsk)
      have htk : (zs.take (k + 1)).map textZ = (zs.take k).map textZ ++ [textZ z] := by
        obtain ⟨hkl, rfl⟩ := List.getElem?_eq_some_iff.1 hsk
        rw [List.take_succ_eq_append_getElem hkl, List.map_append]; rfl
      have HTK := hidP htk
      clear hu hsk htk
      go_wp2_with fail
      refine (HR.out z _ HMEM.out).mono ?_
      rintro e w1 ⟨rfl, he1⟩
      have HE := he.trans he1
      replace hown := ownsRow_ext hown he1
      clear he he1
      generalize textZ z = tz at *
      go_wp2_with (at_builtin; refine wpList_appW1 T_str rfl _ _ rfl hown HE _ rfl rfl rfl (by omega) (by omega) ?_; intro v' w' hown' he')
      go_roundw
      case rel => exact ⟨k + 1, by omega, by go_num, by rw [HTK.out]; simpa [strs] using hown', he'⟩
      case measure => simp only [intOf]; omega
    · obtain rfl : k = n := by omega
      rw [List.take_of_length_le (by rw [HLN.out]; omega)] at hown
      obtain ⟨a5, cap5, rfl, hsl⟩ := Sl.of_owns hown
      go_wp2_with fail
      go_ret
      exact ⟨_, _, _, rfl, hsl, he⟩

set_option maxRecDepth 100000 in
set_option maxHeartbeats 2000000 in
theorem r07_Same_any (a a' : Option Addr) (n cap cap' : Nat) (zs : List Int) (w : World) (hs : Sl w a n cap (intsZ zs)) (hs' : Sl w a' n cap' (intsZ zs)) :
    Calls Tryd.prog 24 #[.slice a n cap, .slice a' n cap'] w fun e w' => e = .returned (.bool true) ∧ Ext w w' := by
  have hcap := hs.2.1
  have hm := hs.2.2.1
  unfold maxLen at hm
  go_enter Tryd.func24, Tryd.ntmps24
  go_wp2_with fail
  go_loopw [5] (fun i wr => ∃ k : Nat, k ≤ n ∧ i = .int .i64 (k : Int) ∧ Ext w wr) (fun i _ => n - (intOf i).toNat)
  case atStart => exact ⟨0, by omega, rfl, Ext.refl _⟩
  case round =>
    obtain ⟨k, hk, rfl, he⟩ := hrel
    by_cases h0 : k < n
    · obtain ⟨b, off, u, rfl, hu, hc⟩ := (hs.ext he).cell_at k h0
      obtain ⟨b', off', u', rfl, hu', hc'⟩ := (hs'.ext he).cell_at k h0
      rw [hu] at hu'
      obtain rfl : u = u' := Option.some.inj hu'
      obtain ⟨z, rfl⟩ : ∃ z, u = .int .i64 z := by
        simp only [intsZ, List.getElem?_map, Option.map_eq_some_iff] at hu
        obtain ⟨s, h1, h2⟩ := hu
        exact ⟨s, h2.symm⟩
      clear hu hu'
      have hki : (k : Int) < (n : Int) := by omega
      go_upto_region 6 with fail
      refine wp_region_plan (R := Ext) (.q 0 (.q 1 (.q 2 (.q 3 (.q 4 (.q 5 (.q 6 (.q 7 (.q 8 .done))))))))) (by kernel_rfl) (by kernel_rfl) (by kernel_rfl) (by kernel_rfl) Ext.refl (fun _ _ _ => Ext.trans) ?_
      have c1 : wr.drew.cell? ⟨b, off + k, none⟩ = some (.int .i64 z) := by go_simp
      have c2 : wr.drew.cell? ⟨b', off' + k, none⟩ = some (.int .i64 z) := by go_simp
      replace he := he.drew
      clear hc hc'
      generalize wr.drew = W1 at *
      repeat (refine wpE_q (v := ?_) rfl rfl (fun u hu => ?_) ?_; rotate_left 1; (focus ((have k1 := hu.cell' c1; have k2 := hu.cell' c2); go_simp; (try rfl))); simp only [Act.put, List.setIfInBounds_toArray, List.set_cons_zero, List.set_cons_succ])
      refine wpE_done ?_
      go_wp2_with fail
      go_roundw
      case rel => exact ⟨k + 1, by omega, by go_num, he⟩
      case measure => simp only [intOf]; omega
    · obtain rfl : k = n := by omega
      go_wp2_with fail
      go_ret
      exact ⟨rfl, he⟩

def ncode (R : Option (Nat × Nat)) : Nat × Nat := match R with | some x => x | none => (0, 0)
theorem NumsR.flat {w w' : World} {R : Option (Nat × Nat)} {vals : List Int} {e : Ending} (h : NumsR w R vals e w') :
    ∃ a n cap, e = .returned (.tuple #[.slice a n cap, .int .i64 ((ncode R).1 : Nat), .int .i64 ((ncode R).2 : Nat)]) ∧ Sl w' a n cap (intsZ (if R.isSome then [] else vals)) ∧ Ext w w' := by
  cases R with
  | none => exact h
  | some x =>
    obtain ⟨i, c⟩ := x
    obtain ⟨rfl, he⟩ := h
    exact ⟨none, 0, 0, rfl, Sl.nil _, he⟩

set_option maxRecDepth 100000 in
set_option maxHeartbeats 4000000 in
theorem figureRows_any (a : Option Addr) (n cap : Nat) (ss : List ByteArray) (a' : Option Addr) (n' cap' : Nat) (zs : List Int) (lo hi : Int) (w : World) (hs : Sl w a n cap (strs ss)) (hsz : ∀ s ∈ ss, s.size ≤ 9223372036854775807) (hn : n ≤ 1048576)
    (hs' : Sl w a' n' cap' (intsZ zs)) (hz : ∀ z ∈ zs, -9223372036854775808 ≤ z ∧ z ≤ 9223372036854775807) (hn' : n' ≤ 1048576) (hF : Tab w) :
    Calls Tryd.prog 6 #[.slice a n cap, .slice a' n' cap', .agg #[.int .i64 lo, .int .i64 hi]] w fun e w' => e = .returned (.bool true) ∧ Ext w w' := by
  have hlz : zs.length = n' := by have := hs'.1; simpa [intsZ] using this
  have n1 := fun u h => f_Nums_any a n cap ss lo hi u h hsz hn (fun s => readL (natsOf s) lo hi) (fun _ => rfl)
  have n2 := fun u h => r07_Nums_any a n cap ss lo hi u h hsz hn (fun s => readL (natsOf s) lo hi) (fun _ => rfl)
  generalize firstBad (fun s => readL (natsOf s) lo hi) ss 0 = RR at *
  generalize (ss.map fun s => ((fun s => readL (natsOf s) lo hi) s).1) = VV at *
  have hr : ∀ z u, z ∈ zs → Calls Tryd.prog 10 #[.int .i64 z] u fun e w' => e = .returned (.string (textZ z)) ∧ Ext u w' := fun z u h => r07_Num_any z u (hz z h).1 (hz z h).2
  have N1 := hidP n1; have N2 := hidP n2; have HR := hidP hr; have HLZ := hidP hlz; have HZ := hidP hz; have HF := hidP hF; have HS := hidP hs; have HS' := hidP hs'
  clear n1 n2 hr hlz hz hF hsz hs hs'
  go_enter Tryd.func6, Tryd.ntmps6
  go_wp2_with fail
  refine (N1.out _ (HS.out.ext ((Ext.refl _).alloc _))).mono ?_
  rintro e w1 h1
  obtain ⟨a1, m1, c1, rfl, hs1, he1⟩ := h1.flat
  have z0 := he1.cell' (p := ⟨w.heap.size, 0, none⟩) (v := .int .i64 lo) (by go_simp; try rfl)
  have z1 := he1.cell' (p := ⟨w.heap.size, 1, none⟩) (v := .int .i64 hi) (by go_simp; try rfl)
  have HE : Ext w w1 := ((Ext.refl _).alloc _).trans he1
  clear he1 h1
  go_wp2_with fail
  refine (N2.out _ (HS.out.ext HE)).mono ?_
  rintro e w2 h2
  obtain ⟨a2, m2, c2, rfl, hs2, he2⟩ := h2.flat
  replace HE := HE.trans he2
  replace hs1 := hs1.ext he2
  clear he2 h2 z0 z1
  generalize ncode RR = nc at *
  obtain ⟨nci, ncc⟩ := nc
  simp only []
  generalize (if RR.isSome = true then [] else VV) = VX at *
  obtain rfl : m2 = m1 := by have h3 := hs1.1; have h4 := hs2.1; omega
  go_wp2_with fail
  refine (f_Words_any a' n' cap' zs _ (HS'.out.ext HE) HZ.out hn').mono ?_
  rintro e w3 ⟨a3, m3, c3, rfl, hs3, he3⟩
  replace HE := HE.trans he3
  replace hs1 := hs1.ext he3
  replace hs2 := hs2.ext he3
  obtain rfl : m3 = n' := by have h3 := hs3.1; have h4 := HLZ.out; simp [strs] at h3; omega
  clear he3
  have HS1 := hidP hs1; have HS2 := hidP hs2; have HS3 := hidP hs3
  clear hs1 hs2 hs3
  go_wp2_with fail
  go_loopw [14] (fun i wr => ∃ k : Nat, k ≤ m3 ∧ i = .int .i64 (k : Int) ∧ Ext w3 wr) (fun i _ => m3 - (intOf i).toNat)
  case atStart => exact ⟨0, by omega, rfl, Ext.refl _⟩
  case round =>
    obtain ⟨k, hk, rfl, he⟩ := hrel
    by_cases h0 : k < m3
    · obtain ⟨b, off, u, rfl, hu, hc⟩ := (HS3.out.ext he).cell_at k h0
      obtain ⟨b', off', u', rfl, hu', hc'⟩ := (HS'.out.ext (HE.trans he)).cell_at k h0
      obtain ⟨z, hzk, rfl⟩ : ∃ z, zs[k]? = some z ∧ u' = .int .i64 z := by
        simp only [intsZ, List.getElem?_map, Option.map_eq_some_iff] at hu'
        obtain ⟨s, h1, h2⟩ := hu'
        exact ⟨s, h1, h2.symm⟩
      obtain rfl : u = .string (textZ z) := by
        simp only [strs, List.getElem?_map, hzk, Option.map_some, Option.some.injEq] at hu
        exact hu.symm
      have HM := hidP (List.mem_of_getElem? hzk)
      clear hu hu' hzk
      have hki : (k : Int) < (m3 : Int) := by omega
      go_upto_region 9 with fail
      refine wp_region_plan (R := Ext) (.q 0 (.q 1 (.q 2 (.q 3 (.q 4 (.q 5 (.q 6 (.q 7 (.l 8 (.q 9 .done)))))))))) (by kernel_rfl) (by kernel_rfl) (by kernel_rfl) (by kernel_rfl) Ext.refl (fun _ _ _ => Ext.trans) ?_
      have c1 : wr.drew.cell? ⟨b, off + k, none⟩ = some (.string (textZ z)) := by go_simp
      have c2 : wr.drew.cell? ⟨b', off' + k, none⟩ = some (.int .i64 z) := by go_simp
      replace he := he.drew
      clear hc hc'
      generalize wr.drew = W1 at *
      repeat (refine wpE_q (v := ?_) rfl rfl (fun u hu => ?_) ?_; rotate_left 1; (focus ((have k1 := hu.cell' c1; have k2 := hu.cell' c2); go_simp; (try rfl))); simp only [Act.put, List.setIfInBounds_toArray, List.set_cons_zero, List.set_cons_succ])
      refine wpE_l rfl rfl (fun K hK => ?_)
      go_simp
      refine (HR.out z _ HM.out).mono ?_
      rintro e W2 ⟨rfl, he1⟩
      refine hK.out _ _ he1 ?_
      clear hK K c1 c2
      replace he := he.trans he1
      clear he1
      try simp only [Act.put, List.setIfInBounds_toArray, List.set_cons_zero, List.set_cons_succ]
      generalize textZ z = tz at *
      repeat (refine wpE_q (v := ?_) rfl rfl (fun u hu => ?_) ?_; rotate_left 1; (focus (go_simp; (try rfl))); simp only [Act.put, List.setIfInBounds_toArray, List.set_cons_zero, List.set_cons_succ])
      refine wpE_done ?_
      go_wp2_with fail
      go_roundw
      case rel => exact ⟨k + 1, by omega, by go_num, he⟩
      case measure => simp only [intOf]; omega
    · obtain rfl : k = m3 := by omega
      go_wp2_with fail
      refine (r07_Same_any a1 a2 m2 c1 c2 VX _ (HS1.out.ext he) (HS2.out.ext he)).mono ?_
      rintro e w4 ⟨rfl, he4⟩
      go_wp2_with fail
      refine (f_lives_any _ (HF.out.ext (HE.trans (he.trans he4)))).mono ?_
      rintro e w5 ⟨rfl, he5⟩
      go_wp2_with fail
      go_ret
      exact ⟨rfl, HE.trans (he.trans (he4.trans he5))⟩

end Go.Proofs.YtbhjookpdmfdnaaDoor
