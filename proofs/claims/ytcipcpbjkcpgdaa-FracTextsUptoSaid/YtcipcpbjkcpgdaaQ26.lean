/- The law of sums of fractions: its walk. -/
import Derived.Test.YtcipcpbjkcpgdaaQ23
import Derived.Test.YtcipcpbjkcpgdaaQ24
import Derived.Test.YtcipcpbjkcpgdaaQ13
namespace Go.Proofs.Ytcipcpbjkcpgdaa
set_option linter.unusedVariables false
open Go Go.RowKit

theorem fq_lift {w : World} {b : Bool} {a d : Option Addr} {n c m k : Nat} {l e : List Nat} (hs : Sl w a n c (ints .u32 l)) (hl : Ws l) (hn : n ≤ 1048576) (ht : Sl w d m k (ints .u32 e)) (he : Ws e) (hm : m ≤ 1048576) : Fq w b a n c d m k (mkRat (wz b (val B32 l)) (val B32 e)) 1048576 := by
  obtain ⟨hw, hd⟩ := wh_of (neg := b) hs hl (by omega)
  have hu : Nu w d m k (val B32 e) := ⟨⟨e, ht, he, rfl⟩, by omega⟩
  exact ⟨_, _, hw, hu, by omega, by omega, by have := hu.dl; omega, rfl⟩
theorem fqs_three {w : World} {g N : Nat} {b1 b2 b3 : Bool} {a1 a2 a3 d1 d2 d3 : Option Addr} {n1 n2 n3 c1 c2 c3 m1 m2 m3 k1 k2 k3 : Nat} {q1 q2 q3 : Rat} (h : Bl w g #[.bool b1, .slice a1 n1 c1, .slice d1 m1 k1, .bool b2, .slice a2 n2 c2, .slice d2 m2 k2, .bool b3, .slice a3 n3 c3, .slice d3 m3 k3])
    (h1 : Fq w b1 a1 n1 c1 d1 m1 k1 q1 N) (h2 : Fq w b2 a2 n2 c2 d2 m2 k2 q2 N) (h3 : Fq w b3 a3 n3 c3 d3 m3 k3 q3 N) : FqS w (some ⟨g, 0, none⟩) 3 3 [q1, q2, q3] N := by
  refine ⟨rfl, by omega, fun _ => ⟨g, 0, rfl, fun i hi => ?_⟩⟩
  match i, hi with
  | 0, _ => exact ⟨b1, a1, d1, n1, c1, m1, k1, h 0, h 1, h 2, h1⟩
  | 1, _ => exact ⟨b2, a2, d2, n2, c2, m2, k2, h 3, h 4, h 5, h2⟩
  | 2, _ => exact ⟨b3, a3, d3, n3, c3, m3, k3, h 6, h 7, h 8, h3⟩
theorem fqs_nil (w : World) (N : Nat) : FqS w none 0 0 [] N := ⟨rfl, by omega, fun h => absurd h (by omega)⟩
theorem sum_three (q1 q2 q3 : Rat) : sumQ [q1, q2, q3] = q1 + (q2 + q3) := by
  show ((0 + q1) + q2) + q3 = _
  rw [Rat.zero_add, Rat.add_assoc]

set_option maxRecDepth 100000 in
set_option maxHeartbeats 8000000 in
theorem fracSums_any (b : Bool) (a : Option Addr) (n c : Nat) (l : List Nat) (d : Option Addr) (m k : Nat) (e : List Nat) (b' : Bool) (a' : Option Addr) (n' c' : Nat) (l' : List Nat) (d' : Option Addr) (m' k' : Nat) (e' : List Nat) (w : World)
    (hs : Sl w a n c (ints .u32 l)) (hl : Ws l) (hn : n ≤ 1048576) (ht : Sl w d m k (ints .u32 e)) (he : Ws e) (hm : m ≤ 1048576) (hs' : Sl w a' n' c' (ints .u32 l')) (hl' : Ws l') (hn' : n' ≤ 1048576) (ht' : Sl w d' m' k' (ints .u32 e')) (he' : Ws e') (hm' : m' ≤ 1048576) :
    Calls Try.prog 17 #[.agg #[.bool b, .slice a n c, .slice d m k], .agg #[.bool b', .slice a' n' c', .slice d' m' k']] w fun e w' => e = .returned (.bool true) ∧ Ext w w' := by
  have h := fq_lift (b := b) hs hl hn ht he hm
  have h' := fq_lift (b := b') hs' hl' hn' ht' he' hm'
  generalize mkRat (wz b (val B32 l)) (val B32 e) = q at *
  generalize mkRat (wz b' (val B32 l')) (val B32 e') = q' at *
  have q1 := h.ql (by omega)
  have q2 := h'.ql (by omega)
  have q3 : ql (mkRat 1 2) ≤ 1 := by
    refine ql_mk ?_ ?_ (by omega)
    · exact dl_small (by decide)
    · exact dl_small (by decide)
  have A1 := hidP (fun (u : World) (t1 : Fq u b a n c d m k q 1048576) (t2 : Fq u b' a' n' c' d' m' k' q' 1048576) => fq_Add t1 t2 (by omega) (by omega))
  have A2 := hidP (fun (u : World) (t1 : Fq u b a n c d m k q 1048576) (t2 : Fq u b' a' n' c' d' m' k' q' 1048576) => gq_Add t1 t2 (by omega) (by omega))
  have A3 := hidP (fun (u : World) (t1 : Fq u b a n c d m k q 1048576) (t2 : Fq u b' a' n' c' d' m' k' q' 1048576) => fq_Sub t1 t2 (by omega) (by omega))
  have A4 := hidP (fun (u : World) (t1 : Fq u b a n c d m k q 1048576) (t2 : Fq u b' a' n' c' d' m' k' q' 1048576) => gq_Sub t1 t2 (by omega) (by omega) (by omega))
  have A5 := hidP (fun (u : World) (t1 : Fq u b a n c d m k q 1048576) (t2 : Fq u b' a' n' c' d' m' k' q' 1048576) => fq_Mul t1 t2 (by omega) (by omega))
  have A6 := hidP (fun (u : World) (t1 : Fq u b a n c d m k q 1048576) (t2 : Fq u b' a' n' c' d' m' k' q' 1048576) => gq_Mul t1 t2 (by omega) (by omega))
  have A7 := hidP (fun (u : World) (t1 : Fq u b a n c d m k q 1048576) => fq_Neg t1 (by omega))
  have A8 := hidP (fun (u : World) (t1 : Fq u b a n c d m k q 1048576) => gq_Neg t1 (by omega))
  have A9 := hidP (fun (u : World) (t1 : Fq u b a n c d m k q 1048576) => fq_Half t1 (by omega))
  have A10 := hidP (fun (u : World) => gq_Half u)
  have A11 := hidP (fun (u : World) (t1 : Fq u b a n c d m k q 1048576) (b2 : Bool) (a2 d2 : Option Addr) (n2 c2 m2 k2 : Nat) (t2 : Fq u b2 a2 n2 c2 d2 m2 k2 (mkRat 1 2) 1) => gq_Mul t1 t2 (by omega) (by omega))
  have A12 := hidP (fun (u : World) (t1 : Fq u b' a' n' c' d' m' k' q' 1048576) (t2 : Fq u b a n c d m k q 1048576) => gq_Add t1 t2 (by omega) (by omega))
  have L1 : Hid (ql (q + q') ≤ 1099511627776) := hidP (by have := ql_add q1 q2; omega)
  have L3 : Hid (ql (q - q') ≤ 1099511627776) := hidP (by have := ql_sub q1 q2; omega)
  have L5 : Hid (ql (q * q') ≤ 1099511627776) := hidP (by have := ql_mul q1 q2 (by omega); omega)
  have L7 : Hid (ql (-q) ≤ 1099511627776) := hidP (by rw [ql_neg]; omega)
  have L9 : Hid (ql (q * mkRat 1 2) ≤ 1099511627776) := hidP (by have := ql_mul q1 q3 (by omega); omega)
  have L10 := hidP q3
  have L12 : Hid (ql (q' + q) ≤ 3145728) := hidP (by have := ql_add q2 q1; omega)
  have hsum := sum_three q q' q
  have hq0 : sumQ [] = ((0 : Int) : Rat) := rfl
  have L13 : Hid (ql (q + (q' + q)) ≤ 1099511627776) := hidP (by have := ql_add q1 L12.out; omega)
  generalize q + q' = r1 at *
  generalize q - q' = r3 at *
  generalize q * q' = r5 at *
  generalize -q = r7 at *
  generalize q * mkRat 1 2 = r9 at *
  generalize mkRat 1 2 = hf at *
  generalize q' + q = r12 at *
  have A13 := hidP (fun (u : World) (t1 : Fq u b a n c d m k q 1048576) (b2 : Bool) (a2 d2 : Option Addr) (n2 c2 m2 k2 : Nat) (t2 : Fq u b2 a2 n2 c2 d2 m2 k2 r12 3145728) => gq_Add t1 t2 (by omega) (by omega))
  generalize q + r12 = r13 at *
  have HSUM := hidP hsum; have HQ0 := hidP hq0
  have L0 : Hid (ql ((0 : Int) : Rat) ≤ 1099511627776) := hidP (by have := ql_int (n := 0) (by omega) (by omega); omega)
  have A14 := hidP (fun (u : World) => gq_Int 0 u (by omega) (by omega))
  generalize ((0 : Int) : Rat) = r0 at *
  have H := hidP h; have H' := hidP h'
  clear h h' hs ht hs' ht' hl he hl' he' q1 q2 q3 hsum hq0
  go_enter Try.func17, Try.ntmps17
  go_wp2_with fail
  refine wp_region_plan (R := Ext) (.q 0 (.q 1 (.q 3 (.q 4 (.l 2 (.l 5 (.l 6 (.q 7 (.q 8 (.q 9 (.q 11 (.q 12 (.l 10 (.l 13 (.l 14 (.q 15 (.q 16 (.q 17 (.q 18 (.q 20 (.q 21 (.l 19 (.l 22 (.l 23 (.q 24 (.q 25 (.q 26 (.q 28 (.l 27 (.l 29 (.l 30 (.q 31 (.q 32 (.q 33 (.q 35 (.l 34 (.l 36 (.l 37 (.l 38 (.q 39 (.q 40 (.q 41 (.q 42 (.q 43 (.q 46 (.q 47 (.q 48 (.l 44 (.l 45 (.l 49 (.l 50 (.l 51 (.q 52 (.q 53 (.l 54 (.l 55 (.l 56 (.q 57 (.q 58 (.l 59 (.q 60 (.q 61 .done)))))))))))))))))))))))))))))))))))))))))))))))))))))))))))))) (by kernel_rfl) (by kernel_rfl) (by kernel_rfl) (by kernel_rfl) Ext.refl (fun _ _ _ => Ext.trans) ?_
  refine absE (fun x1 hx1 => ?_)
  have hx : Ext w x1 := by rw [hx1]; exact (((Ext.refl _).alloc _).alloc _).drew
  have bp : Bl x1 (w.heap.size) #[.bool b, .slice a n c, .slice d m k] := by rw [hx1]; exact ((Bl.new (by simp)).alloc (by simp)).drew
  have bq : Bl x1 (w.heap.size + 1) #[.bool b', .slice a' n' c', .slice d' m' k'] := by rw [hx1]; exact (Bl.new (by simp)).drew
  have HE := hx
  clear hx
  clear hx1
  repeat (refine wpE_q (v := ?_) rfl rfl (fun u hu => ?_) ?_; rotate_left 1; (focus (have kp := Bl.ext hu bp (Nat.succ_pos _); have kq := Bl.ext hu bq (Nat.succ_pos _); go_simp; (try rfl))); simp only [Act.put, List.setIfInBounds_toArray, List.set_cons_zero, List.set_cons_succ])
  refine wpE_l rfl rfl (fun K hK => ?_)
  go_simp
  refine (A1.out _ (H.out.ext HE) (H'.out.ext HE)).mono ?_
  rintro e u2 ⟨a2, n2, c2, d2, m2, k2, rfl, hs2, ht2, hx⟩
  refine hK.out _ _ hx ?_
  clear hK K
  try simp only [Act.put, List.setIfInBounds_toArray, List.set_cons_zero, List.set_cons_succ]
  replace bp := Bl.ext hx bp (Nat.succ_pos _)
  replace bq := Bl.ext hx bq (Nat.succ_pos _)
  replace HE := HE.trans hx
  clear hx
  replace hs2 : Nc u2 a2 n2 c2 (r1.num).natAbs := hs2
  replace ht2 : Nc u2 d2 m2 k2 (r1.den) := ht2
  refine wpE_l rfl rfl (fun K hK => ?_)
  go_simp
  refine (A2.out _ (H.out.ext HE) (H'.out.ext HE)).mono ?_
  rintro e u5 ⟨a5, n5, c5, d5, m5, k5, rfl, hs5, ht5, hx⟩
  refine hK.out _ _ hx ?_
  clear hK K
  try simp only [Act.put, List.setIfInBounds_toArray, List.set_cons_zero, List.set_cons_succ]
  replace bp := Bl.ext hx bp (Nat.succ_pos _)
  replace bq := Bl.ext hx bq (Nat.succ_pos _)
  replace hs2 := hs2.ext hx
  replace ht2 := ht2.ext hx
  replace HE := HE.trans hx
  clear hx
  replace hs5 : Nc u5 a5 n5 c5 (r1.num).natAbs := hs5
  replace ht5 : Nc u5 d5 m5 k5 (r1.den) := ht5
  refine wpE_l rfl rfl (fun K hK => ?_)
  go_simp
  refine (gq_Same hs2 ht2 hs5 ht5 L1.out).mono ?_
  rw [decide_eq_true (rfl : r1 = r1)]
  rintro e u6 ⟨rfl, hx⟩
  refine hK.out _ _ hx ?_
  clear hK K
  try simp only [Act.put, List.setIfInBounds_toArray, List.set_cons_zero, List.set_cons_succ]
  replace bp := Bl.ext hx bp (Nat.succ_pos _)
  replace bq := Bl.ext hx bq (Nat.succ_pos _)
  replace hs2 := hs2.ext hx
  replace ht2 := ht2.ext hx
  replace hs5 := hs5.ext hx
  replace ht5 := ht5.ext hx
  replace HE := HE.trans hx
  clear hx
  clear hs2 ht2 hs5 ht5
  repeat (refine wpE_q (v := ?_) rfl rfl (fun u hu => ?_) ?_; rotate_left 1; (focus (have kp := Bl.ext hu bp (Nat.succ_pos _); have kq := Bl.ext hu bq (Nat.succ_pos _); go_simp; (try rfl))); simp only [Act.put, List.setIfInBounds_toArray, List.set_cons_zero, List.set_cons_succ])
  refine wpE_l rfl rfl (fun K hK => ?_)
  go_simp
  refine (A3.out _ (H.out.ext HE) (H'.out.ext HE)).mono ?_
  rintro e u10 ⟨a10, n10, c10, d10, m10, k10, rfl, hs10, ht10, hx⟩
  refine hK.out _ _ hx ?_
  clear hK K
  try simp only [Act.put, List.setIfInBounds_toArray, List.set_cons_zero, List.set_cons_succ]
  replace bp := Bl.ext hx bp (Nat.succ_pos _)
  replace bq := Bl.ext hx bq (Nat.succ_pos _)
  replace HE := HE.trans hx
  clear hx
  replace hs10 : Nc u10 a10 n10 c10 (r3.num).natAbs := hs10
  replace ht10 : Nc u10 d10 m10 k10 (r3.den) := ht10
  refine wpE_l rfl rfl (fun K hK => ?_)
  go_simp
  refine (A4.out _ (H.out.ext HE) (H'.out.ext HE)).mono ?_
  rintro e u13 ⟨a13, n13, c13, d13, m13, k13, rfl, hs13, ht13, hx⟩
  refine hK.out _ _ hx ?_
  clear hK K
  try simp only [Act.put, List.setIfInBounds_toArray, List.set_cons_zero, List.set_cons_succ]
  replace bp := Bl.ext hx bp (Nat.succ_pos _)
  replace bq := Bl.ext hx bq (Nat.succ_pos _)
  replace hs10 := hs10.ext hx
  replace ht10 := ht10.ext hx
  replace HE := HE.trans hx
  clear hx
  replace hs13 : Nc u13 a13 n13 c13 (r3.num).natAbs := hs13
  replace ht13 : Nc u13 d13 m13 k13 (r3.den) := ht13
  refine wpE_l rfl rfl (fun K hK => ?_)
  go_simp
  refine (gq_Same hs10 ht10 hs13 ht13 L3.out).mono ?_
  rw [decide_eq_true (rfl : r3 = r3)]
  rintro e u14 ⟨rfl, hx⟩
  refine hK.out _ _ hx ?_
  clear hK K
  try simp only [Act.put, List.setIfInBounds_toArray, List.set_cons_zero, List.set_cons_succ]
  replace bp := Bl.ext hx bp (Nat.succ_pos _)
  replace bq := Bl.ext hx bq (Nat.succ_pos _)
  replace hs10 := hs10.ext hx
  replace ht10 := ht10.ext hx
  replace hs13 := hs13.ext hx
  replace ht13 := ht13.ext hx
  replace HE := HE.trans hx
  clear hx
  clear hs10 ht10 hs13 ht13
  repeat (refine wpE_q (v := ?_) rfl rfl (fun u hu => ?_) ?_; rotate_left 1; (focus (have kp := Bl.ext hu bp (Nat.succ_pos _); have kq := Bl.ext hu bq (Nat.succ_pos _); go_simp; (try rfl))); simp only [Act.put, List.setIfInBounds_toArray, List.set_cons_zero, List.set_cons_succ])
  refine wpE_l rfl rfl (fun K hK => ?_)
  go_simp
  refine (A5.out _ (H.out.ext HE) (H'.out.ext HE)).mono ?_
  rintro e u19 ⟨a19, n19, c19, d19, m19, k19, rfl, hs19, ht19, hx⟩
  refine hK.out _ _ hx ?_
  clear hK K
  try simp only [Act.put, List.setIfInBounds_toArray, List.set_cons_zero, List.set_cons_succ]
  replace bp := Bl.ext hx bp (Nat.succ_pos _)
  replace bq := Bl.ext hx bq (Nat.succ_pos _)
  replace HE := HE.trans hx
  clear hx
  replace hs19 : Nc u19 a19 n19 c19 (r5.num).natAbs := hs19
  replace ht19 : Nc u19 d19 m19 k19 (r5.den) := ht19
  refine wpE_l rfl rfl (fun K hK => ?_)
  go_simp
  refine (A6.out _ (H.out.ext HE) (H'.out.ext HE)).mono ?_
  rintro e u22 ⟨a22, n22, c22, d22, m22, k22, rfl, hs22, ht22, hx⟩
  refine hK.out _ _ hx ?_
  clear hK K
  try simp only [Act.put, List.setIfInBounds_toArray, List.set_cons_zero, List.set_cons_succ]
  replace bp := Bl.ext hx bp (Nat.succ_pos _)
  replace bq := Bl.ext hx bq (Nat.succ_pos _)
  replace hs19 := hs19.ext hx
  replace ht19 := ht19.ext hx
  replace HE := HE.trans hx
  clear hx
  replace hs22 : Nc u22 a22 n22 c22 (r5.num).natAbs := hs22
  replace ht22 : Nc u22 d22 m22 k22 (r5.den) := ht22
  refine wpE_l rfl rfl (fun K hK => ?_)
  go_simp
  refine (gq_Same hs19 ht19 hs22 ht22 L5.out).mono ?_
  rw [decide_eq_true (rfl : r5 = r5)]
  rintro e u23 ⟨rfl, hx⟩
  refine hK.out _ _ hx ?_
  clear hK K
  try simp only [Act.put, List.setIfInBounds_toArray, List.set_cons_zero, List.set_cons_succ]
  replace bp := Bl.ext hx bp (Nat.succ_pos _)
  replace bq := Bl.ext hx bq (Nat.succ_pos _)
  replace hs19 := hs19.ext hx
  replace ht19 := ht19.ext hx
  replace hs22 := hs22.ext hx
  replace ht22 := ht22.ext hx
  replace HE := HE.trans hx
  clear hx
  clear hs19 ht19 hs22 ht22
  repeat (refine wpE_q (v := ?_) rfl rfl (fun u hu => ?_) ?_; rotate_left 1; (focus (have kp := Bl.ext hu bp (Nat.succ_pos _); have kq := Bl.ext hu bq (Nat.succ_pos _); go_simp; (try rfl))); simp only [Act.put, List.setIfInBounds_toArray, List.set_cons_zero, List.set_cons_succ])
  refine wpE_l rfl rfl (fun K hK => ?_)
  go_simp
  refine (A7.out _ (H.out.ext HE)).mono ?_
  rintro e u27 ⟨a27, n27, c27, d27, m27, k27, rfl, hs27, ht27, hx⟩
  refine hK.out _ _ hx ?_
  clear hK K
  try simp only [Act.put, List.setIfInBounds_toArray, List.set_cons_zero, List.set_cons_succ]
  replace bp := Bl.ext hx bp (Nat.succ_pos _)
  replace bq := Bl.ext hx bq (Nat.succ_pos _)
  replace HE := HE.trans hx
  clear hx
  replace hs27 : Nc u27 a27 n27 c27 (r7.num).natAbs := hs27
  replace ht27 : Nc u27 d27 m27 k27 (r7.den) := ht27
  refine wpE_l rfl rfl (fun K hK => ?_)
  go_simp
  refine (A8.out _ (H.out.ext HE)).mono ?_
  rintro e u29 ⟨a29, n29, c29, d29, m29, k29, rfl, hs29, ht29, hx⟩
  refine hK.out _ _ hx ?_
  clear hK K
  try simp only [Act.put, List.setIfInBounds_toArray, List.set_cons_zero, List.set_cons_succ]
  replace bp := Bl.ext hx bp (Nat.succ_pos _)
  replace bq := Bl.ext hx bq (Nat.succ_pos _)
  replace hs27 := hs27.ext hx
  replace ht27 := ht27.ext hx
  replace HE := HE.trans hx
  clear hx
  replace hs29 : Nc u29 a29 n29 c29 (r7.num).natAbs := hs29
  replace ht29 : Nc u29 d29 m29 k29 (r7.den) := ht29
  refine wpE_l rfl rfl (fun K hK => ?_)
  go_simp
  refine (gq_Same hs27 ht27 hs29 ht29 L7.out).mono ?_
  rw [decide_eq_true (rfl : r7 = r7)]
  rintro e u30 ⟨rfl, hx⟩
  refine hK.out _ _ hx ?_
  clear hK K
  try simp only [Act.put, List.setIfInBounds_toArray, List.set_cons_zero, List.set_cons_succ]
  replace bp := Bl.ext hx bp (Nat.succ_pos _)
  replace bq := Bl.ext hx bq (Nat.succ_pos _)
  replace hs27 := hs27.ext hx
  replace ht27 := ht27.ext hx
  replace hs29 := hs29.ext hx
  replace ht29 := ht29.ext hx
  replace HE := HE.trans hx
  clear hx
  clear hs27 ht27 hs29 ht29
  repeat (refine wpE_q (v := ?_) rfl rfl (fun u hu => ?_) ?_; rotate_left 1; (focus (have kp := Bl.ext hu bp (Nat.succ_pos _); have kq := Bl.ext hu bq (Nat.succ_pos _); go_simp; (try rfl))); simp only [Act.put, List.setIfInBounds_toArray, List.set_cons_zero, List.set_cons_succ])
  refine wpE_l rfl rfl (fun K hK => ?_)
  go_simp
  refine (A9.out _ (H.out.ext HE)).mono ?_
  rintro e u34 ⟨a34, n34, c34, d34, m34, k34, rfl, hs34, ht34, hx⟩
  refine hK.out _ _ hx ?_
  clear hK K
  try simp only [Act.put, List.setIfInBounds_toArray, List.set_cons_zero, List.set_cons_succ]
  replace bp := Bl.ext hx bp (Nat.succ_pos _)
  replace bq := Bl.ext hx bq (Nat.succ_pos _)
  replace HE := HE.trans hx
  clear hx
  replace hs34 : Nc u34 a34 n34 c34 (r9.num).natAbs := hs34
  replace ht34 : Nc u34 d34 m34 k34 (r9.den) := ht34
  refine wpE_l rfl rfl (fun K hK => ?_)
  go_simp
  refine (A10.out _).mono ?_
  rintro e u36 ⟨a36, n36, c36, d36, m36, k36, rfl, hs36, ht36, hx⟩
  refine hK.out _ _ hx ?_
  clear hK K
  try simp only [Act.put, List.setIfInBounds_toArray, List.set_cons_zero, List.set_cons_succ]
  replace bp := Bl.ext hx bp (Nat.succ_pos _)
  replace bq := Bl.ext hx bq (Nat.succ_pos _)
  replace hs34 := hs34.ext hx
  replace ht34 := ht34.ext hx
  replace HE := HE.trans hx
  clear hx
  replace hs36 : Nc u36 a36 n36 c36 (hf.num).natAbs := hs36
  replace ht36 : Nc u36 d36 m36 k36 (hf.den) := ht36
  refine wpE_l rfl rfl (fun K hK => ?_)
  go_simp
  refine (A11.out _ (H.out.ext HE) _ _ _ _ _ _ _ (fq_of hs36 ht36 L10.out (by omega))).mono ?_
  rintro e u37 ⟨a37, n37, c37, d37, m37, k37, rfl, hs37, ht37, hx⟩
  refine hK.out _ _ hx ?_
  clear hK K
  try simp only [Act.put, List.setIfInBounds_toArray, List.set_cons_zero, List.set_cons_succ]
  replace bp := Bl.ext hx bp (Nat.succ_pos _)
  replace bq := Bl.ext hx bq (Nat.succ_pos _)
  replace hs34 := hs34.ext hx
  replace ht34 := ht34.ext hx
  replace hs36 := hs36.ext hx
  replace ht36 := ht36.ext hx
  replace HE := HE.trans hx
  clear hx
  replace hs37 : Nc u37 a37 n37 c37 (r9.num).natAbs := hs37
  replace ht37 : Nc u37 d37 m37 k37 (r9.den) := ht37
  clear hs36 ht36
  refine wpE_l rfl rfl (fun K hK => ?_)
  go_simp
  refine (gq_Same hs34 ht34 hs37 ht37 L9.out).mono ?_
  rw [decide_eq_true (rfl : r9 = r9)]
  rintro e u38 ⟨rfl, hx⟩
  refine hK.out _ _ hx ?_
  clear hK K
  try simp only [Act.put, List.setIfInBounds_toArray, List.set_cons_zero, List.set_cons_succ]
  replace bp := Bl.ext hx bp (Nat.succ_pos _)
  replace bq := Bl.ext hx bq (Nat.succ_pos _)
  replace hs34 := hs34.ext hx
  replace ht34 := ht34.ext hx
  replace hs37 := hs37.ext hx
  replace ht37 := ht37.ext hx
  replace HE := HE.trans hx
  clear hx
  clear hs34 ht34 hs37 ht37
  repeat (refine wpE_q (v := ?_) rfl rfl (fun u hu => ?_) ?_; rotate_left 1; (focus (have kp := Bl.ext hu bp (Nat.succ_pos _); have kq := Bl.ext hu bq (Nat.succ_pos _); go_simp; (try rfl))); simp only [Act.put, List.setIfInBounds_toArray, List.set_cons_zero, List.set_cons_succ])
  refine wpE_l rfl rfl (fun K hK => ?_)
  go_simp
  refine hK.out _ _ ((Ext.refl _).alloc _) ?_
  clear hK K
  try simp only [Act.put, List.setIfInBounds_toArray, List.set_cons_zero, List.set_cons_succ]
  have lpr := bp.lt (Nat.succ_pos _)
  have lqr := bq.lt (Nat.succ_pos _)
  have l0r := HE.size
  refine absE (fun x2 hx2 => ?_)
  have hx : Ext u38 x2 := by rw [hx2]; exact ((Ext.refl _).alloc _)
  have br : Bl x2 (u38.heap.size) #[.bool b, .slice a n c, .slice d m k, .bool b', .slice a' n' c', .slice d' m' k', .bool b, .slice a n c, .slice d m k] := by rw [hx2]; exact (Bl.new (by simp))
  replace bp := Bl.ext hx bp (Nat.succ_pos _)
  replace bq := Bl.ext hx bq (Nat.succ_pos _)
  replace HE := HE.trans hx
  clear hx
  clear hx2
  refine wpE_l rfl rfl (fun K hK => ?_)
  go_simp
  refine (fq_Sum _ 3 3 [q, q', q] 1048576 _ (fqs_three br (H.out.ext HE) (H'.out.ext HE) (H.out.ext HE)) (by omega) (by omega) (by omega)).mono ?_
  rw [HSUM.out]
  rintro e u45 ⟨a45, n45, c45, d45, m45, k45, rfl, hs45, ht45, hx⟩
  refine hK.out _ _ hx ?_
  clear hK K
  try simp only [Act.put, List.setIfInBounds_toArray, List.set_cons_zero, List.set_cons_succ]
  replace bp := Bl.ext hx bp (Nat.succ_pos _)
  replace bq := Bl.ext hx bq (Nat.succ_pos _)
  replace br := Bl.ext hx br (Nat.succ_pos _)
  replace HE := HE.trans hx
  clear hx
  replace hs45 : Nc u45 a45 n45 c45 (r13.num).natAbs := hs45
  replace ht45 : Nc u45 d45 m45 k45 (r13.den) := ht45
  refine wpE_l rfl rfl (fun K hK => ?_)
  go_simp
  refine (A12.out _ (H'.out.ext HE) (H.out.ext HE)).mono ?_
  rintro e u49 ⟨a49, n49, c49, d49, m49, k49, rfl, hs49, ht49, hx⟩
  refine hK.out _ _ hx ?_
  clear hK K
  try simp only [Act.put, List.setIfInBounds_toArray, List.set_cons_zero, List.set_cons_succ]
  replace bp := Bl.ext hx bp (Nat.succ_pos _)
  replace bq := Bl.ext hx bq (Nat.succ_pos _)
  replace br := Bl.ext hx br (Nat.succ_pos _)
  replace hs45 := hs45.ext hx
  replace ht45 := ht45.ext hx
  replace HE := HE.trans hx
  clear hx
  replace hs49 : Nc u49 a49 n49 c49 (r12.num).natAbs := hs49
  replace ht49 : Nc u49 d49 m49 k49 (r12.den) := ht49
  refine wpE_l rfl rfl (fun K hK => ?_)
  go_simp
  refine (A13.out _ (H.out.ext HE) _ _ _ _ _ _ _ (fq_of hs49 ht49 L12.out (by omega))).mono ?_
  rintro e u50 ⟨a50, n50, c50, d50, m50, k50, rfl, hs50, ht50, hx⟩
  refine hK.out _ _ hx ?_
  clear hK K
  try simp only [Act.put, List.setIfInBounds_toArray, List.set_cons_zero, List.set_cons_succ]
  replace bp := Bl.ext hx bp (Nat.succ_pos _)
  replace bq := Bl.ext hx bq (Nat.succ_pos _)
  replace br := Bl.ext hx br (Nat.succ_pos _)
  replace hs45 := hs45.ext hx
  replace ht45 := ht45.ext hx
  replace hs49 := hs49.ext hx
  replace ht49 := ht49.ext hx
  replace HE := HE.trans hx
  clear hx
  replace hs50 : Nc u50 a50 n50 c50 (r13.num).natAbs := hs50
  replace ht50 : Nc u50 d50 m50 k50 (r13.den) := ht50
  clear hs49 ht49
  refine wpE_l rfl rfl (fun K hK => ?_)
  go_simp
  refine (gq_Same hs45 ht45 hs50 ht50 L13.out).mono ?_
  rw [decide_eq_true (rfl : r13 = r13)]
  rintro e u51 ⟨rfl, hx⟩
  refine hK.out _ _ hx ?_
  clear hK K
  try simp only [Act.put, List.setIfInBounds_toArray, List.set_cons_zero, List.set_cons_succ]
  replace bp := Bl.ext hx bp (Nat.succ_pos _)
  replace bq := Bl.ext hx bq (Nat.succ_pos _)
  replace br := Bl.ext hx br (Nat.succ_pos _)
  replace hs45 := hs45.ext hx
  replace ht45 := ht45.ext hx
  replace hs50 := hs50.ext hx
  replace ht50 := ht50.ext hx
  replace HE := HE.trans hx
  clear hx
  clear hs45 ht45 hs50 ht50
  repeat (refine wpE_q (v := ?_) rfl rfl (fun u hu => ?_) ?_; rotate_left 1; (focus (have kp := Bl.ext hu bp (Nat.succ_pos _); have kq := Bl.ext hu bq (Nat.succ_pos _); have kr := Bl.ext hu br (Nat.succ_pos _); go_simp; (try rfl))); simp only [Act.put, List.setIfInBounds_toArray, List.set_cons_zero, List.set_cons_succ])
  refine wpE_l rfl rfl (fun K hK => ?_)
  go_simp
  refine (fq_Sum none 0 0 [] 1 _ (fqs_nil _ _) (by omega) (by omega) (by omega)).mono ?_
  rw [HQ0.out]
  rintro e u54 ⟨a54, n54, c54, d54, m54, k54, rfl, hs54, ht54, hx⟩
  refine hK.out _ _ hx ?_
  clear hK K
  try simp only [Act.put, List.setIfInBounds_toArray, List.set_cons_zero, List.set_cons_succ]
  replace bp := Bl.ext hx bp (Nat.succ_pos _)
  replace bq := Bl.ext hx bq (Nat.succ_pos _)
  replace br := Bl.ext hx br (Nat.succ_pos _)
  replace HE := HE.trans hx
  clear hx
  replace hs54 : Nc u54 a54 n54 c54 (r0.num).natAbs := hs54
  replace ht54 : Nc u54 d54 m54 k54 (r0.den) := ht54
  refine wpE_l rfl rfl (fun K hK => ?_)
  go_simp
  refine (A14.out _).mono ?_
  rintro e u55 ⟨a55, n55, c55, d55, m55, k55, rfl, hs55, ht55, hx⟩
  refine hK.out _ _ hx ?_
  clear hK K
  try simp only [Act.put, List.setIfInBounds_toArray, List.set_cons_zero, List.set_cons_succ]
  replace bp := Bl.ext hx bp (Nat.succ_pos _)
  replace bq := Bl.ext hx bq (Nat.succ_pos _)
  replace br := Bl.ext hx br (Nat.succ_pos _)
  replace hs54 := hs54.ext hx
  replace ht54 := ht54.ext hx
  replace HE := HE.trans hx
  clear hx
  replace hs55 : Nc u55 a55 n55 c55 (r0.num).natAbs := hs55
  replace ht55 : Nc u55 d55 m55 k55 (r0.den) := ht55
  refine wpE_l rfl rfl (fun K hK => ?_)
  go_simp
  refine (gq_Same hs54 ht54 hs55 ht55 L0.out).mono ?_
  rw [decide_eq_true (rfl : r0 = r0)]
  rintro e u56 ⟨rfl, hx⟩
  refine hK.out _ _ hx ?_
  clear hK K
  try simp only [Act.put, List.setIfInBounds_toArray, List.set_cons_zero, List.set_cons_succ]
  replace bp := Bl.ext hx bp (Nat.succ_pos _)
  replace bq := Bl.ext hx bq (Nat.succ_pos _)
  replace br := Bl.ext hx br (Nat.succ_pos _)
  replace hs54 := hs54.ext hx
  replace ht54 := ht54.ext hx
  replace hs55 := hs55.ext hx
  replace ht55 := ht55.ext hx
  replace HE := HE.trans hx
  clear hx
  clear hs54 ht54 hs55 ht55
  repeat (refine wpE_q (v := ?_) rfl rfl (fun u hu => ?_) ?_; rotate_left 1; (focus (have kp := Bl.ext hu bp (Nat.succ_pos _); have kq := Bl.ext hu bq (Nat.succ_pos _); have kr := Bl.ext hu br (Nat.succ_pos _); go_simp; (try rfl))); simp only [Act.put, List.setIfInBounds_toArray, List.set_cons_zero, List.set_cons_succ])
  refine wpE_l rfl rfl (fun K hK => ?_)
  go_simp
  refine (fr_lives _).mono ?_
  rintro e u59 ⟨rfl, hx⟩
  refine hK.out _ _ hx ?_
  clear hK K
  try simp only [Act.put, List.setIfInBounds_toArray, List.set_cons_zero, List.set_cons_succ]
  replace bp := Bl.ext hx bp (Nat.succ_pos _)
  replace bq := Bl.ext hx bq (Nat.succ_pos _)
  replace br := Bl.ext hx br (Nat.succ_pos _)
  replace HE := HE.trans hx
  clear hx
  repeat (refine wpE_q (v := ?_) rfl rfl (fun u hu => ?_) ?_; rotate_left 1; (focus (have kp := Bl.ext hu bp (Nat.succ_pos _); have kq := Bl.ext hu bq (Nat.succ_pos _); have kr := Bl.ext hu br (Nat.succ_pos _); go_simp; (try rfl))); simp only [Act.put, List.setIfInBounds_toArray, List.set_cons_zero, List.set_cons_succ])
  refine wpE_done ?_
  go_wp2_with fail
  go_ret
  exact ⟨rfl, HE⟩

end Go.Proofs.Ytcipcpbjkcpgdaa
