/- The program's whole numbers: quotients, and what is left. -/
import Derived.Test.YtcipcpbjkcpgdaaK10
import Derived.Test.YtcipcpbjkcpgdaaBlk
import Derived.Test.YtcipcpbjkcpgdaaW5
import Derived.Test.YtcipcpbjkcpgdaaW10
namespace Go.Proofs.Ytcipcpbjkcpgdaa
set_option linter.unusedVariables false
open Go Go.RowKit

theorem absB {P : Program} {fn : Func} {R : Ending → World → Prop} {ex : Exit} {a : Act} {w : World} (h : ∀ u, u = w → bodyPost P fn R ex a u) : bodyPost P fn R ex a w := h w rfl
theorem Nc.but {w u : World} {g : Nat} {cs : Array Value} {a : Option Addr} {n cap V : Nat} (h : Nc w a n cap V) (hb : Bl w g cs) (hcs : ∀ (j : Nat) (x : Int), cs[j]? ≠ some (Value.int .u32 x)) (hu : But w u g) : Nc u a n cap V := Sl.but h hb hcs hu
theorem bl_two {w : World} {g : Nat} {v0 v1 : Value} (h : Bl w g #[v0, v1]) : ∀ j v, (#[v0, v1] : Array Value).toList[j]? = some v → w.cell? ⟨g, j, none⟩ = some v := by
  intro j v hv
  rw [h j]
  simpa using hv
theorem WhIn.nu {w : World} {neg : Bool} {a : Option Addr} {n cap : Nat} {z : Int} (h : WhIn w neg a n cap z) : Nu w a n cap z.natAbs := by
  obtain ⟨⟨l, hs, hl, hz⟩, hn⟩ := h
  have h2 : z.natAbs = val B32 l := by rw [← hz]; unfold wz; split <;> omega
  exact ⟨⟨l, hs, hl, h2.symm⟩, by omega⟩
theorem WhIn.sgn {w : World} {neg : Bool} {a : Option Addr} {n cap : Nat} {z : Int} (h : WhIn w neg a n cap z) : z = wz neg z.natAbs := by
  obtain ⟨⟨l, hs, hl, hz⟩, hn⟩ := h
  have h2 : z.natAbs = val B32 l := by rw [← hz]; unfold wz; split <;> omega
  rw [h2]; exact hz.symm
theorem nb_bool {b : Bool} : ∀ x : Int, Value.bool b ≠ .int .u32 x := fun x h => by cases h
theorem nb_slice {a : Option Addr} {n c : Nat} : ∀ x : Int, Value.slice a n c ≠ .int .u32 x := fun x h => by cases h

theorem wz_false_nn (m : Nat) : decide (wz false m < 0) = false := decide_eq_false (by show ¬ ((m : Nat) : Int) < 0; omega)

/-- What is left: at least 0, below the divisor. -/
def zmod (z z' : Int) : Int := if z' = 0 then 0 else z % z'
/-- A quotient and a rest, with signs. -/
def RetWD (w : World) (z z' : Int) (e : Ending) (w' : World) : Prop :=
  ∃ a n cap a' n' cap', e = .returned (.tuple #[.agg #[.bool (decide (z / z' < 0)), .slice a n cap], .agg #[.bool (decide (zmod z z' < 0)), .slice a' n' cap'], .bool (decide (z' ≠ 0))]) ∧ Nc w' a n cap (z / z').natAbs ∧ Nc w' a' n' cap' (zmod z z').natAbs ∧ Ext w w'
theorem RetWD.of {w : World} {z z' q r : Int} {ok b c : Bool} {a a' : Option Addr} {n cap n' cap' : Nat} {u : World} (hq : z / z' = q) (hr : zmod z z' = r) (hok : decide (z' ≠ 0) = ok) (hb : decide (q < 0) = b) (hc : decide (r < 0) = c)
    (h1 : Nc u a n cap q.natAbs) (h2 : Nc u a' n' cap' r.natAbs) (he : Ext w u) : RetWD w z z' (.returned (.tuple #[.agg #[.bool b, .slice a n cap], .agg #[.bool c, .slice a' n' cap'], .bool ok])) u := by
  subst hq; subst hr; subst hok; subst hb; subst hc
  exact ⟨a, n, cap, a', n', cap', rfl, h1, h2, he⟩

theorem div_up {A B : Nat} (hB : 0 < B) (h0 : A % B ≠ 0) : (-(A : Int)) / (B : Int) = -((A / B + 1 : Nat) : Int) ∧ (-(A : Int)) % (B : Int) = ((B - A % B : Nat) : Int) := by
  have hm := Nat.mod_lt A hB
  have hd := Nat.div_add_mod A B
  refine (Int.ediv_emod_unique (by omega)).2 ⟨?_, by omega, by omega⟩
  have e : ((B - A % B : Nat) : Int) = (B : Int) - ((A % B : Nat) : Int) := by omega
  rw [e, Int.mul_neg]
  have e2 : (B : Int) * ((A / B + 1 : Nat) : Int) = ((B * (A / B) : Nat) : Int) + (B : Int) := by
    rw [Int.natCast_add, Int.mul_add, Int.natCast_mul]; simp
  rw [e2]
  omega
theorem div_even {A B : Nat} (hB : 0 < B) (h0 : A % B = 0) : (-(A : Int)) / (B : Int) = -((A / B : Nat) : Int) ∧ (-(A : Int)) % (B : Int) = 0 := by
  have hd := Nat.div_add_mod A B
  refine (Int.ediv_emod_unique (by omega)).2 ⟨?_, by omega, by omega⟩
  rw [Int.mul_neg, ← Int.natCast_mul]
  omega
theorem div_pos' {A B : Nat} : ((A : Int)) / (B : Int) = ((A / B : Nat) : Int) ∧ ((A : Int)) % (B : Int) = ((A % B : Nat) : Int) := ⟨rfl, rfl⟩
/-- The quotient and the rest, by the sizes. -/
theorem div_law {neg neg' : Bool} {A B : Nat} (hB : B ≠ 0) : (neg = true ∧ A % B ≠ 0 → wz neg A / wz neg' B = wz (neg != neg') (A / B + 1) ∧ wz neg A % wz neg' B = ((B - A % B : Nat) : Int)) ∧
    (¬ (neg = true ∧ A % B ≠ 0) → wz neg A / wz neg' B = wz (neg != neg') (A / B) ∧ wz neg A % wz neg' B = ((A % B : Nat) : Int)) := by
  have hB' : 0 < B := Nat.pos_of_ne_zero hB
  constructor
  · rintro ⟨rfl, h0⟩
    have h := div_up hB' h0
    cases neg'
    · simpa [wz] using h
    · simp only [wz]
      simp only [if_true, Int.ediv_neg, Int.emod_neg, h.1, h.2]
      simp
  · intro h0
    cases neg
    · cases neg'
      · simp [wz]
      · simp [wz]
    · have h1 : A % B = 0 := by simpa using h0
      have h := div_even hB' h1
      cases neg'
      · simp [wz, h.1, h.2, h1]
      · simp only [wz]
        simp only [if_true, Int.ediv_neg, Int.emod_neg, h.1, h.2, h1]
        simp

set_option maxRecDepth 100000 in
set_option maxHeartbeats 4000000 in
theorem w_Div_any (neg neg' : Bool) (a a' : Option Addr) (n cap n' cap' : Nat) (z z' : Int) (w : World) (hw : WhIn w neg a n cap z) (hw' : WhIn w neg' a' n' cap' z') :
    Calls Try.prog 47 #[.agg #[.bool neg, .slice a n cap], .agg #[.bool neg', .slice a' n' cap']] w (RetWD w z z') := by
  have hA := hw.nu
  have hB := hw'.nu
  have hz := hw.sgn
  have hz' := hw'.sgn
  have dA : dl z.natAbs ≤ 549755813888 := by have := hA.dl; have := hw.le; omega
  have dB : dl z'.natAbs ≤ 549755813888 := by have := hB.dl; have := hw'.le; omega
  have HL := fun h => div_law (neg := neg) (neg' := neg') (A := z.natAbs) (B := z'.natAbs) h
  rw [← hz, ← hz'] at HL
  have hz0 : z' ≠ 0 ↔ z'.natAbs ≠ 0 := by omega
  generalize z.natAbs = A at *
  generalize z'.natAbs = B at *
  have HA := hidP hA; have HB := hidP hB
  clear hw hw' hA hB hz hz'
  have dm := dl_mod A B
  have dq := dl_div A B
  have HDM : Hid (dl (A % B) ≤ 549755813888) := hidP (by omega)
  have HDQ : Hid (dl (A / B) ≤ 549755813888) := hidP (by omega)
  clear dm dq dA dB
  by_cases hB0 : B = 0
  · have HZ := hidP hB0
    have hz00 : z' = 0 := by omega
    have HR : Hid (∀ u, Ext w u → RetWD w z z' (.returned (.tuple #[.agg #[.bool false, .slice none 0 0], .agg #[.bool false, .slice none 0 0], .bool false])) u) := hidP (fun u he => by
      refine RetWD.of (q := 0) (r := 0) ?_ ?_ ?_ rfl rfl (Nc.zero _) (Nc.zero _) he
      · rw [hz00, Int.ediv_zero]
      · unfold zmod; rw [if_pos hz00]
      · simp [hz00])
    generalize RetWD w z z' = R at *
    clear hz00 hz0 hB0 HL
    go_enter Try.func47, Try.ntmps47
    go_wp2_with fail
    refine absC (fun x1 hx1 => ?_)
    have hx : Ext w x1 := by rw [hx1]; exact (((((Ext.refl _).alloc _).alloc _).alloc _).alloc _)
    have bp : Bl x1 (w.heap.size) #[.bool neg, .slice a n cap] := by rw [hx1]; exact ((((Bl.new (by simp)).alloc (by simp)).alloc (by simp)).alloc (by simp))
    have bq : Bl x1 (w.heap.size + 1) #[.bool neg', .slice a' n' cap'] := by rw [hx1]; exact (((Bl.new (by simp)).alloc (by simp)).alloc (by simp))
    have bs : Bl x1 (w.heap.size + 1 + 1) #[.bool false, .slice none 0 0] := by rw [hx1]; exact ((Bl.new (by simp)).alloc (by simp))
    have fs : Fz x1 (w.heap.size + 1 + 1) := by rw [hx1]; exact ((Fz.new (by simp)).alloc (Bl.new (by simp)) (by simp))
    have bt : Bl x1 (w.heap.size + 1 + 1 + 1) #[.bool false, .slice none 0 0] := by rw [hx1]; exact (Bl.new (by simp))
    have ft : Fz x1 (w.heap.size + 1 + 1 + 1) := by rw [hx1]; exact (Fz.new (by simp))
    have HE := hx
    clear hx
    clear hx1
    have hq := n_Div (HA.out.ext HE) (HB.out.ext HE)
    unfold RetQR at hq
    rw [decide_eq_false (by simp [HZ.out]), if_pos HZ.out, if_pos HZ.out] at hq
    have HQ := hidP hq
    clear hq
    refine (HQ.out).mono ?_
    rintro e u1 ⟨a1q, n1q, c1q, a1r, n1r, c1r, rfl, hs1q, hs1r, hx⟩
    replace bp := Bl.ext hx bp (Nat.succ_pos _)
    replace bq := Bl.ext hx bq (Nat.succ_pos _)
    replace fs := Fz.ext hx fs bs (Nat.succ_pos _)
    replace bs := Bl.ext hx bs (Nat.succ_pos _)
    replace ft := Fz.ext hx ft bt (Nat.succ_pos _)
    replace bt := Bl.ext hx bt (Nat.succ_pos _)
    replace HE := HE.trans hx
    clear hx
    clear HQ hs1q hs1r
    go_wp2_with fail
    refine absB (fun ue hue => ?_)
    have hne : w.heap.size + 1 + 1 ≠ w.heap.size + 1 + 1 + 1 := by omega
    have hne' : w.heap.size + 1 + 1 + 1 ≠ w.heap.size + 1 + 1 := by omega
    have hbs : Bl ue (w.heap.size + 1 + 1) #[.bool false, .slice none 0 0] := by rw [hue]; exact (((bs.set (Nat.succ_pos _)).set (Nat.lt_succ_self _)).other hne).other hne
    have hbt : Bl ue (w.heap.size + 1 + 1 + 1) #[.bool false, .slice none 0 0] := by rw [hue]; exact ((((bt.other hne').other hne').set (Nat.succ_pos _)).set (Nat.lt_succ_self _))
    have hnc : ∀ {aa : Option Addr} {nn cc VV : Nat}, Nc u1 aa nn cc VV → Nc ue aa nn cc VV := fun h => by
      rw [hue]
      exact (h.but bs (not_ints2 nb_bool nb_slice) ((But.refl _ _).store.store)).but ((bt.other hne').other hne') (not_ints2 nb_bool nb_slice) ((But.refl _ _).store.store)
    have heu : Ext w ue := by rw [hue]; exact (((HE.store (by show w.heap.size ≤ w.heap.size + 1 + 1; omega) _).store (by show w.heap.size ≤ w.heap.size + 1 + 1; omega) _).store (by show w.heap.size ≤ w.heap.size + 1 + 1 + 1; omega) _).store (by show w.heap.size ≤ w.heap.size + 1 + 1 + 1; omega) _
    clear hue
    refine bodyPost_cells2_tmp rfl rfl rfl Try.underlying51 rfl (by kernel_rfl) (by kernel_rfl) (bl_two hbs) (bl_two hbt) rfl rfl ?_
    exact HR.out _ heu
  · have HZ := hidP hB0
    have HL2 := hidP (HL hB0)
    have HZ1 : Hid (decide (z' ≠ 0) = true) := hidP (decide_eq_true (hz0.2 hB0))
    have HZM : Hid (zmod z z' = z % z') := hidP (by unfold zmod; rw [if_neg (hz0.2 hB0)])
    clear HL hz0
    by_cases hup : neg = true ∧ A % B ≠ 0
    · have HM0 : Hid (A % B ≠ 0) := hidP hup.2
      have HLW := hidP (HL2.out.1 hup)
      obtain rfl : neg = true := hup.1
      clear hup
      go_enter Try.func47, Try.ntmps47
      go_wp2_with fail
      refine absC (fun x1 hx1 => ?_)
      have hx : Ext w x1 := by rw [hx1]; exact (((((Ext.refl _).alloc _).alloc _).alloc _).alloc _)
      have bp : Bl x1 (w.heap.size) #[.bool true, .slice a n cap] := by rw [hx1]; exact ((((Bl.new (by simp)).alloc (by simp)).alloc (by simp)).alloc (by simp))
      have bq : Bl x1 (w.heap.size + 1) #[.bool neg', .slice a' n' cap'] := by rw [hx1]; exact (((Bl.new (by simp)).alloc (by simp)).alloc (by simp))
      have bs : Bl x1 (w.heap.size + 1 + 1) #[.bool false, .slice none 0 0] := by rw [hx1]; exact ((Bl.new (by simp)).alloc (by simp))
      have fs : Fz x1 (w.heap.size + 1 + 1) := by rw [hx1]; exact ((Fz.new (by simp)).alloc (Bl.new (by simp)) (by simp))
      have bt : Bl x1 (w.heap.size + 1 + 1 + 1) #[.bool false, .slice none 0 0] := by rw [hx1]; exact (Bl.new (by simp))
      have ft : Fz x1 (w.heap.size + 1 + 1 + 1) := by rw [hx1]; exact (Fz.new (by simp))
      have HE := hx
      clear hx
      clear hx1
      have hq := n_Div (HA.out.ext HE) (HB.out.ext HE)
      unfold RetQR at hq
      rw [decide_eq_true HZ.out, if_neg HZ.out, if_neg HZ.out] at hq
      have HQ := hidP hq
      clear hq
      refine (HQ.out).mono ?_
      rintro e u1 ⟨a1q, n1q, c1q, a1r, n1r, c1r, rfl, hs1q, hs1r, hx⟩
      replace bp := Bl.ext hx bp (Nat.succ_pos _)
      replace bq := Bl.ext hx bq (Nat.succ_pos _)
      replace fs := Fz.ext hx fs bs (Nat.succ_pos _)
      replace bs := Bl.ext hx bs (Nat.succ_pos _)
      replace ft := Fz.ext hx ft bt (Nat.succ_pos _)
      replace bt := Bl.ext hx bt (Nat.succ_pos _)
      replace HE := HE.trans hx
      clear hx
      clear HQ
      have hnr := hs1r.len
      have hnp : 0 < n1r := by have := HM0.out; rw [hnr]; rcases Nat.eq_zero_or_pos (dl (A % B)) with h | h; (exact absurd (dl_eq_zero.1 h) this); exact h
      have HNR := hidP hnr; clear hnr
      go_wp2_with fail
      refine absC (fun x2 hx2 => ?_)
      have hx : Ext u1 x2 := by rw [hx2]; exact ((Ext.refl _).alloc _)
      replace bp := Bl.ext hx bp (Nat.succ_pos _)
      replace bq := Bl.ext hx bq (Nat.succ_pos _)
      replace fs := Fz.ext hx fs bs (Nat.succ_pos _)
      replace bs := Bl.ext hx bs (Nat.succ_pos _)
      replace ft := Fz.ext hx ft bt (Nat.succ_pos _)
      replace bt := Bl.ext hx bt (Nat.succ_pos _)
      replace hs1q := hs1q.ext hx
      replace hs1r := hs1r.ext hx
      replace HE := HE.trans hx
      clear hx
      have h1 : Nc x2 (some ⟨u1.heap.size, 0, none⟩) 1 1 1 := by rw [hx2]; exact Nc.lit1 _ 1 (by omega) (by omega) _
      clear hx2
      refine (n_Add (hs1q.nu (by have := HDQ.out; omega)) (h1.nu (by rw [← h1.len]; omega))).mono ?_
      rintro e u2 ⟨a2, n2, c2, rfl, hs2, hx⟩
      replace bp := Bl.ext hx bp (Nat.succ_pos _)
      replace bq := Bl.ext hx bq (Nat.succ_pos _)
      replace fs := Fz.ext hx fs bs (Nat.succ_pos _)
      replace bs := Bl.ext hx bs (Nat.succ_pos _)
      replace ft := Fz.ext hx ft bt (Nat.succ_pos _)
      replace bt := Bl.ext hx bt (Nat.succ_pos _)
      replace hs1q := hs1q.ext hx
      replace hs1r := hs1r.ext hx
      replace HE := HE.trans hx
      clear hx
      clear h1
      clear hs1q
      go_wp2_with fail
      refine (n_Sub (HB.out.ext HE) (hs1r.nu (by have := HDM.out; omega))).mono ?_
      rintro e u3 ⟨a3, n3, c3, rfl, hs3, hx⟩
      replace bp := Bl.ext hx bp (Nat.succ_pos _)
      replace bq := Bl.ext hx bq (Nat.succ_pos _)
      replace fs := Fz.ext hx fs bs (Nat.succ_pos _)
      replace bs := Bl.ext hx bs (Nat.succ_pos _)
      replace ft := Fz.ext hx ft bt (Nat.succ_pos _)
      replace bt := Bl.ext hx bt (Nat.succ_pos _)
      replace hs1r := hs1r.ext hx
      replace hs2 := hs2.ext hx
      replace HE := HE.trans hx
      clear hx
      clear hs1r
      have hnb : (true != neg') = (!neg') := by cases neg' <;> rfl
      rw [hnb] at HLW
      clear hnb
      have HNB : Hid (decide (wz (!neg') (A / B + 1) < 0) = decide (wz (!neg') (A / B + 1) < 0)) := hidP rfl
      clear HNB
      go_wp2_with fail
      refine (w_clean_any (!neg') a2 n2 c2 (A / B + 1) _ hs2).mono ?_
      rintro e u7 ⟨a7, n7, c7, rfl, hs7, hx⟩
      replace bp := Bl.ext hx bp (Nat.succ_pos _)
      replace bq := Bl.ext hx bq (Nat.succ_pos _)
      replace fs := Fz.ext hx fs bs (Nat.succ_pos _)
      replace bs := Bl.ext hx bs (Nat.succ_pos _)
      replace ft := Fz.ext hx ft bt (Nat.succ_pos _)
      replace bt := Bl.ext hx bt (Nat.succ_pos _)
      replace hs2 := hs2.ext hx
      replace hs3 := hs3.ext hx
      replace HE := HE.trans hx
      clear hx
      clear hs2
      go_wp2_with fail
      refine (w_clean_any false a3 n3 c3 (B - A % B) _ hs3).mono ?_
      rintro e u8 ⟨a8, n8, c8, rfl, hs8, hx⟩
      replace bp := Bl.ext hx bp (Nat.succ_pos _)
      replace bq := Bl.ext hx bq (Nat.succ_pos _)
      replace fs := Fz.ext hx fs bs (Nat.succ_pos _)
      replace bs := Bl.ext hx bs (Nat.succ_pos _)
      replace ft := Fz.ext hx ft bt (Nat.succ_pos _)
      replace bt := Bl.ext hx bt (Nat.succ_pos _)
      replace hs3 := hs3.ext hx
      replace hs7 := hs7.ext hx
      replace HE := HE.trans hx
      clear hx
      clear hs3
      generalize hb1 : decide (wz (!neg') (A / B + 1) < 0) = b1 at *
      have HB1 := hidP hb1; clear hb1
      have HS7 : Hid (Nc u8 a7 n7 c7 (wz (!neg') (A / B + 1)).natAbs) := hidP hs7
      have HS8 : Hid (Nc u8 a8 n8 c8 (wz false (B - A % B)).natAbs) := hidP hs8
      have hb2 := wz_false_nn (B - A % B)
      rw [hb2]
      clear hb2 hs7 hs8
      go_wp2_with fail
      refine absB (fun ue hue => ?_)
      have hne : w.heap.size + 1 + 1 ≠ w.heap.size + 1 + 1 + 1 := by omega
      have hne' : w.heap.size + 1 + 1 + 1 ≠ w.heap.size + 1 + 1 := by omega
      have hbs : Bl ue (w.heap.size + 1 + 1) #[.bool b1, .slice a7 n7 c7] := by rw [hue]; exact (((bs.set (Nat.succ_pos _)).set (Nat.lt_succ_self _)).other hne).other hne
      have hbt : Bl ue (w.heap.size + 1 + 1 + 1) #[.bool false, .slice a8 n8 c8] := by rw [hue]; exact ((((bt.other hne').other hne').set (Nat.succ_pos _)).set (Nat.lt_succ_self _))
      have hnc : ∀ {aa : Option Addr} {nn cc VV : Nat}, Nc u8 aa nn cc VV → Nc ue aa nn cc VV := fun h => by
        rw [hue]
        exact (h.but bs (not_ints2 nb_bool nb_slice) ((But.refl _ _).store.store)).but ((bt.other hne').other hne') (not_ints2 nb_bool nb_slice) ((But.refl _ _).store.store)
      have heu : Ext w ue := by rw [hue]; exact (((HE.store (by show w.heap.size ≤ w.heap.size + 1 + 1; omega) _).store (by show w.heap.size ≤ w.heap.size + 1 + 1; omega) _).store (by show w.heap.size ≤ w.heap.size + 1 + 1 + 1; omega) _).store (by show w.heap.size ≤ w.heap.size + 1 + 1 + 1; omega) _
      clear hue
      refine bodyPost_cells2_tmp rfl rfl rfl Try.underlying51 rfl (by kernel_rfl) (by kernel_rfl) (bl_two hbs) (bl_two hbt) rfl rfl ?_
      have HLL := HLW.out
      refine RetWD.of (q := wz (!neg') (A / B + 1)) (r := wz false (B - A % B)) HLL.1 ?_ HZ1.out HB1.out ?_ (hnc HS7.out) (hnc HS8.out) heu
      · rw [HZM.out, HLL.2]; rfl
      · exact wz_false_nn _
    · have HM0 : Hid (¬ (neg = true ∧ A % B ≠ 0)) := hidP hup
      have HLW := hidP (HL2.out.2 hup)
      clear hup
      go_enter Try.func47, Try.ntmps47
      go_wp2_with fail
      refine absC (fun x1 hx1 => ?_)
      have hx : Ext w x1 := by rw [hx1]; exact (((((Ext.refl _).alloc _).alloc _).alloc _).alloc _)
      have bp : Bl x1 (w.heap.size) #[.bool neg, .slice a n cap] := by rw [hx1]; exact ((((Bl.new (by simp)).alloc (by simp)).alloc (by simp)).alloc (by simp))
      have bq : Bl x1 (w.heap.size + 1) #[.bool neg', .slice a' n' cap'] := by rw [hx1]; exact (((Bl.new (by simp)).alloc (by simp)).alloc (by simp))
      have bs : Bl x1 (w.heap.size + 1 + 1) #[.bool false, .slice none 0 0] := by rw [hx1]; exact ((Bl.new (by simp)).alloc (by simp))
      have fs : Fz x1 (w.heap.size + 1 + 1) := by rw [hx1]; exact ((Fz.new (by simp)).alloc (Bl.new (by simp)) (by simp))
      have bt : Bl x1 (w.heap.size + 1 + 1 + 1) #[.bool false, .slice none 0 0] := by rw [hx1]; exact (Bl.new (by simp))
      have ft : Fz x1 (w.heap.size + 1 + 1 + 1) := by rw [hx1]; exact (Fz.new (by simp))
      have HE := hx
      clear hx
      clear hx1
      have hq := n_Div (HA.out.ext HE) (HB.out.ext HE)
      unfold RetQR at hq
      rw [decide_eq_true HZ.out, if_neg HZ.out, if_neg HZ.out] at hq
      have HQ := hidP hq
      clear hq
      refine (HQ.out).mono ?_
      rintro e u1 ⟨a1q, n1q, c1q, a1r, n1r, c1r, rfl, hs1q, hs1r, hx⟩
      replace bp := Bl.ext hx bp (Nat.succ_pos _)
      replace bq := Bl.ext hx bq (Nat.succ_pos _)
      replace fs := Fz.ext hx fs bs (Nat.succ_pos _)
      replace bs := Bl.ext hx bs (Nat.succ_pos _)
      replace ft := Fz.ext hx ft bt (Nat.succ_pos _)
      replace bt := Bl.ext hx bt (Nat.succ_pos _)
      replace HE := HE.trans hx
      clear hx
      clear HQ
      have hnr := hs1r.len
      have hnp : neg = true → n1r = 0 := by intro h; rw [hnr, dl_eq_zero]; have := HM0.out; simp only [h, true_and, Decidable.not_not] at this; exact this
      have HNR := hidP hnr; clear hnr
      cases neg with
      | true =>
        obtain rfl : n1r = 0 := hnp rfl
        clear hnp
        have hnb : (true != neg') = (!neg') := by cases neg' <;> rfl
        rw [hnb] at HLW
        clear hnb
        have HNB : Hid (decide (wz (!neg') (A / B) < 0) = decide (wz (!neg') (A / B) < 0)) := hidP rfl
        clear HNB
        go_wp2_with fail
        refine (w_clean_any (!neg') a1q n1q c1q (A / B) _ hs1q).mono ?_
        rintro e u7 ⟨a7, n7, c7, rfl, hs7, hx⟩
        replace bp := Bl.ext hx bp (Nat.succ_pos _)
        replace bq := Bl.ext hx bq (Nat.succ_pos _)
        replace fs := Fz.ext hx fs bs (Nat.succ_pos _)
        replace bs := Bl.ext hx bs (Nat.succ_pos _)
        replace ft := Fz.ext hx ft bt (Nat.succ_pos _)
        replace bt := Bl.ext hx bt (Nat.succ_pos _)
        replace hs1q := hs1q.ext hx
        replace hs1r := hs1r.ext hx
        replace HE := HE.trans hx
        clear hx
        clear hs1q
        go_wp2_with fail
        refine (w_clean_any false a1r 0 c1r (A % B) _ hs1r).mono ?_
        rintro e u8 ⟨a8, n8, c8, rfl, hs8, hx⟩
        replace bp := Bl.ext hx bp (Nat.succ_pos _)
        replace bq := Bl.ext hx bq (Nat.succ_pos _)
        replace fs := Fz.ext hx fs bs (Nat.succ_pos _)
        replace bs := Bl.ext hx bs (Nat.succ_pos _)
        replace ft := Fz.ext hx ft bt (Nat.succ_pos _)
        replace bt := Bl.ext hx bt (Nat.succ_pos _)
        replace hs1r := hs1r.ext hx
        replace hs7 := hs7.ext hx
        replace HE := HE.trans hx
        clear hx
        clear hs1r
        generalize hb1 : decide (wz (!neg') (A / B) < 0) = b1 at *
        have HB1 := hidP hb1; clear hb1
        have HS7 : Hid (Nc u8 a7 n7 c7 (wz (!neg') (A / B)).natAbs) := hidP hs7
        have HS8 : Hid (Nc u8 a8 n8 c8 (wz false (A % B)).natAbs) := hidP hs8
        have hb2 := wz_false_nn (A % B)
        rw [hb2]
        clear hb2 hs7 hs8
        go_wp2_with fail
        refine absB (fun ue hue => ?_)
        have hne : w.heap.size + 1 + 1 ≠ w.heap.size + 1 + 1 + 1 := by omega
        have hne' : w.heap.size + 1 + 1 + 1 ≠ w.heap.size + 1 + 1 := by omega
        have hbs : Bl ue (w.heap.size + 1 + 1) #[.bool b1, .slice a7 n7 c7] := by rw [hue]; exact (((bs.set (Nat.succ_pos _)).set (Nat.lt_succ_self _)).other hne).other hne
        have hbt : Bl ue (w.heap.size + 1 + 1 + 1) #[.bool false, .slice a8 n8 c8] := by rw [hue]; exact ((((bt.other hne').other hne').set (Nat.succ_pos _)).set (Nat.lt_succ_self _))
        have hnc : ∀ {aa : Option Addr} {nn cc VV : Nat}, Nc u8 aa nn cc VV → Nc ue aa nn cc VV := fun h => by
          rw [hue]
          exact (h.but bs (not_ints2 nb_bool nb_slice) ((But.refl _ _).store.store)).but ((bt.other hne').other hne') (not_ints2 nb_bool nb_slice) ((But.refl _ _).store.store)
        have heu : Ext w ue := by rw [hue]; exact (((HE.store (by show w.heap.size ≤ w.heap.size + 1 + 1; omega) _).store (by show w.heap.size ≤ w.heap.size + 1 + 1; omega) _).store (by show w.heap.size ≤ w.heap.size + 1 + 1 + 1; omega) _).store (by show w.heap.size ≤ w.heap.size + 1 + 1 + 1; omega) _
        clear hue
        refine bodyPost_cells2_tmp rfl rfl rfl Try.underlying51 rfl (by kernel_rfl) (by kernel_rfl) (bl_two hbs) (bl_two hbt) rfl rfl ?_
        have HLL := HLW.out
        refine RetWD.of (q := wz (!neg') (A / B)) (r := wz false (A % B)) HLL.1 ?_ HZ1.out HB1.out ?_ (hnc HS7.out) (hnc HS8.out) heu
        · rw [HZM.out, HLL.2]; rfl
        · exact wz_false_nn _
      | false =>
        clear hnp
        have hnb : (false != neg') = neg' := by cases neg' <;> rfl
        rw [hnb] at HLW
        clear hnb
        have HNB : Hid (decide (wz neg' (A / B) < 0) = decide (wz neg' (A / B) < 0)) := hidP rfl
        clear HNB
        go_wp2_with fail
        refine (w_clean_any neg' a1q n1q c1q (A / B) _ hs1q).mono ?_
        rintro e u7 ⟨a7, n7, c7, rfl, hs7, hx⟩
        replace bp := Bl.ext hx bp (Nat.succ_pos _)
        replace bq := Bl.ext hx bq (Nat.succ_pos _)
        replace fs := Fz.ext hx fs bs (Nat.succ_pos _)
        replace bs := Bl.ext hx bs (Nat.succ_pos _)
        replace ft := Fz.ext hx ft bt (Nat.succ_pos _)
        replace bt := Bl.ext hx bt (Nat.succ_pos _)
        replace hs1q := hs1q.ext hx
        replace hs1r := hs1r.ext hx
        replace HE := HE.trans hx
        clear hx
        clear hs1q
        go_wp2_with fail
        refine (w_clean_any false a1r n1r c1r (A % B) _ hs1r).mono ?_
        rintro e u8 ⟨a8, n8, c8, rfl, hs8, hx⟩
        replace bp := Bl.ext hx bp (Nat.succ_pos _)
        replace bq := Bl.ext hx bq (Nat.succ_pos _)
        replace fs := Fz.ext hx fs bs (Nat.succ_pos _)
        replace bs := Bl.ext hx bs (Nat.succ_pos _)
        replace ft := Fz.ext hx ft bt (Nat.succ_pos _)
        replace bt := Bl.ext hx bt (Nat.succ_pos _)
        replace hs1r := hs1r.ext hx
        replace hs7 := hs7.ext hx
        replace HE := HE.trans hx
        clear hx
        clear hs1r
        generalize hb1 : decide (wz neg' (A / B) < 0) = b1 at *
        have HB1 := hidP hb1; clear hb1
        have HS7 : Hid (Nc u8 a7 n7 c7 (wz neg' (A / B)).natAbs) := hidP hs7
        have HS8 : Hid (Nc u8 a8 n8 c8 (wz false (A % B)).natAbs) := hidP hs8
        have hb2 := wz_false_nn (A % B)
        rw [hb2]
        clear hb2 hs7 hs8
        go_wp2_with fail
        refine absB (fun ue hue => ?_)
        have hne : w.heap.size + 1 + 1 ≠ w.heap.size + 1 + 1 + 1 := by omega
        have hne' : w.heap.size + 1 + 1 + 1 ≠ w.heap.size + 1 + 1 := by omega
        have hbs : Bl ue (w.heap.size + 1 + 1) #[.bool b1, .slice a7 n7 c7] := by rw [hue]; exact (((bs.set (Nat.succ_pos _)).set (Nat.lt_succ_self _)).other hne).other hne
        have hbt : Bl ue (w.heap.size + 1 + 1 + 1) #[.bool false, .slice a8 n8 c8] := by rw [hue]; exact ((((bt.other hne').other hne').set (Nat.succ_pos _)).set (Nat.lt_succ_self _))
        have hnc : ∀ {aa : Option Addr} {nn cc VV : Nat}, Nc u8 aa nn cc VV → Nc ue aa nn cc VV := fun h => by
          rw [hue]
          exact (h.but bs (not_ints2 nb_bool nb_slice) ((But.refl _ _).store.store)).but ((bt.other hne').other hne') (not_ints2 nb_bool nb_slice) ((But.refl _ _).store.store)
        have heu : Ext w ue := by rw [hue]; exact (((HE.store (by show w.heap.size ≤ w.heap.size + 1 + 1; omega) _).store (by show w.heap.size ≤ w.heap.size + 1 + 1; omega) _).store (by show w.heap.size ≤ w.heap.size + 1 + 1 + 1; omega) _).store (by show w.heap.size ≤ w.heap.size + 1 + 1 + 1; omega) _
        clear hue
        refine bodyPost_cells2_tmp rfl rfl rfl Try.underlying51 rfl (by kernel_rfl) (by kernel_rfl) (bl_two hbs) (bl_two hbt) rfl rfl ?_
        have HLL := HLW.out
        refine RetWD.of (q := wz neg' (A / B)) (r := wz false (A % B)) HLL.1 ?_ HZ1.out HB1.out ?_ (hnc HS7.out) (hnc HS8.out) heu
        · rw [HZM.out, HLL.2]; rfl
        · exact wz_false_nn _

end Go.Proofs.Ytcipcpbjkcpgdaa
