/- The document's whole numbers (frisketref02): made, of an int, their sign. -/
import Derived.Test.YtcipcpbjkcpgdaaA10
import Derived.Test.YtcipcpbjkcpgdaaC1
namespace Go.Proofs.Ytcipcpbjkcpgdaa
set_option linter.unusedVariables false
open Go Go.RowKit

theorem two {w : World} {g : Nat} {v0 v1 : Value} (h0 : w.cell? ⟨g, 0, none⟩ = some v0) (h1 : w.cell? ⟨g, 1, none⟩ = some v1) :
    ∀ j v, (#[v0, v1] : Array Value).toList[j]? = some v → w.cell? ⟨g, j, none⟩ = some v := by
  intro j v hv
  match j, hv with
  | 0, hv => simp at hv; rw [h0, hv]
  | 1, hv => simp at hv; rw [h1, hv]
  | n + 2, hv => simp at hv

theorem Sl.set {u : World} {a : Option Addr} {n cap : Nat} {k : IntKind} {l : List Nat} (h : Sl u a n cap (ints k l)) {p : Addr} {old : Value} (v : Value) (hp : u.cell? p = some old) (hne : ∀ x, old ≠ .int k x) :
    Sl (u.setCell p v) a n cap (ints k l) := by
  refine ⟨h.1, h.2.1, h.2.2.1, fun h0 => ?_⟩
  obtain ⟨b, off, ha, hc⟩ := h.2.2.2 h0
  refine ⟨b, off, ha, fun i x hx => ?_⟩
  have h1 := hc i x hx
  rw [World.cell?_setCell_other, h1]
  rintro rfl
  rw [hp] at h1
  simp only [ints, List.getElem?_map, Option.map_eq_some_iff] at hx
  obtain ⟨y, _, rfl⟩ := hx
  exact hne _ (Option.some.inj h1)

/-- A sign and a size as a number. -/
def wz (neg : Bool) (m : Nat) : Int := if neg then -(m : Int) else (m : Int)

/-- The call hands back a whole number as no call answers another one. -/
def RetW (w : World) (z : Int) (e : Ending) (w' : World) : Prop :=
  ∃ a n cap, e = .returned (.agg #[.bool (decide (z < 0)), .slice a n cap]) ∧ Sl w' a n cap (ints .u32 (dig B32 z.natAbs)) ∧ Ext w w'

/-- Stored into a block of the call's own. -/
theorem RetW.stored {w u : World} {z : Int} {g : Nat} {b0 : Bool} {a : Option Addr} {n cap x2 x3 : Nat} {x1 : Option Addr} {b : Bool}
    (h0 : u.cell? ⟨g, 0, none⟩ = some (.bool b0)) (h1 : u.cell? ⟨g, 1, none⟩ = some (.slice x1 x2 x3)) (hs : Sl u a n cap (ints .u32 (dig B32 z.natAbs))) (he : Ext w u) (hg : w.heap.size ≤ g) (hb : b = decide (z < 0)) :
    RetW w z (.returned (.agg #[.bool b, .slice a n cap])) ((u.setCell ⟨g, 0, none⟩ (.bool b)).setCell ⟨g, 1, none⟩ (.slice a n cap)) := by
  subst hb
  refine ⟨a, n, cap, rfl, ?_, (he.store hg _).store hg _⟩
  refine (hs.set _ h0 (fun x hx => by cases hx)).set _ (old := .slice x1 x2 x3) ?_ (fun x hx => by cases hx)
  exact (World.cell?_setCell_other u ⟨g, 0, none⟩ ⟨g, 1, none⟩ _ (by simp)).trans h1

theorem dig_len_pos {m : Nat} : 0 < (dig B32 m).length ↔ m ≠ 0 := by
  constructor
  · rintro h rfl; rw [dig_zero] at h; simp at h
  · intro h; rw [dig_pos B32_two h]; simp

set_option maxRecDepth 100000 in
set_option maxHeartbeats 1000000 in
theorem r02_Make_any (neg : Bool) (a : Option Addr) (n cap : Nat) (l : List Nat) (w : World) (hs : Sl w a n cap (ints .u32 l)) (hl : Ws l) (hn : n ≤ 1099511627776) :
    Calls Try.prog 65 #[.bool neg, .slice a n cap] w (RetW w (wz neg (val B32 l))) := by
  have hln := hs.int_len
  have hlb := dig_val_len B32_two l hl
  have hAbs : (wz neg (val B32 l)).natAbs = val B32 l := by unfold wz; split <;> omega
  have hNeg : ∀ n2 : Nat, (dig B32 (val B32 l)).length = n2 → (neg = true ∧ 0 < n2 ↔ wz neg (val B32 l) < 0) := by
    intro n2 h2
    have := @dig_len_pos (val B32 l)
    unfold wz
    cases neg
    · simp
    · simp; omega
  have HNeg := hidP hNeg
  have HA := hidP hAbs
  have HLB := hidP hlb
  clear hNeg hAbs hlb
  go_enter Try.func65, Try.ntmps65
  go_wp2_with fail
  refine (r01_half_any a n cap l _ (hs.ext ((Ext.refl _).alloc _)) hl hn).mono ?_
  rintro e w1 ⟨a1, n1, cap1, rfl, hs1, he1⟩
  have hb1 := half_len hs hl hs1
  clear hln
  go_wp2_with fail
  refine (r01_words_any a1 n1 cap1 _ _ hs1 (Hs.dig _) (by omega)).mono ?_
  rw [val_dig B16_two]
  rintro e w2 ⟨a2, n2, cap2, rfl, hs2, he2⟩
  have HN := hidP (HNeg.out n2 hs2.int_len)
  have he := he1.trans he2
  have z0 := he.cell' (p := ⟨w.heap.size, 0, none⟩) (v := .bool false) (by go_simp; try rfl)
  have q0 : w2.frozen? ⟨w.heap.size, 0, none⟩ = false := (he.frozen (p := ⟨w.heap.size, 0, none⟩) (by simp)).trans (by go_simp)
  have z1 := he.cell' (p := ⟨w.heap.size, 1, none⟩) (v := .slice none 0 0) (by go_simp; try rfl)
  have q1 : w2.frozen? ⟨w.heap.size, 1, none⟩ = false := (he.frozen (p := ⟨w.heap.size, 1, none⟩) (by simp)).trans (by go_simp)
  have HE : Ext w w2 := ((Ext.refl _).alloc _).trans he
  rw [← HA.out] at hs2
  have HS2 := hidP hs2
  have HEE := hidP HE
  clear hs2 hs1 he he1 he2 hb1 HE hs
  cases neg with
  | false =>
    go_wp2_with fail
    refine bodyPost_cells rfl rfl Try.underlying51 rfl (by kernel_rfl) (two (by go_simp; try rfl) (by go_simp; try rfl)) rfl ?_
    exact RetW.stored z0 z1 HS2.out HEE.out (Nat.le_refl _) (by have := HN.out; simp at this; simp; omega)
  | true =>
    by_cases h0 : 0 < n2
    · go_wp2_with fail
      refine bodyPost_cells rfl rfl Try.underlying51 rfl (by kernel_rfl) (two (by go_simp; try rfl) (by go_simp; try rfl)) rfl ?_
      exact RetW.stored z0 z1 HS2.out HEE.out (Nat.le_refl _) (by have := HN.out; simp at this; simp; omega)
    · go_wp2_with fail
      refine bodyPost_cells rfl rfl Try.underlying51 rfl (by kernel_rfl) (two (by go_simp; try rfl) (by go_simp; try rfl)) rfl ?_
      exact RetW.stored z0 z1 HS2.out HEE.out (Nat.le_refl _) (by have := HN.out; simp at this; simp; omega)

/-- A whole number that came in, or was answered. -/
structure WhIn (w : World) (neg : Bool) (a : Option Addr) (n cap : Nat) (z : Int) : Prop where
  sl : ∃ l, Sl w a n cap (ints .u32 l) ∧ Ws l ∧ wz neg (val B32 l) = z
  le : n ≤ 549755813888

theorem wz_canon (z : Int) : wz (decide (z < 0)) z.natAbs = z := by
  unfold wz
  by_cases h : z < 0
  · simp [h]; omega
  · simp [h]; omega

set_option maxRecDepth 100000 in
set_option maxHeartbeats 1000000 in
theorem r02_Of_any (n : Int) (w : World) (h1 : -9223372036854775808 ≤ n) (h2 : n ≤ 9223372036854775807) :
    Calls Try.prog 63 #[.int .i64 n] w (RetW w n) := by
  by_cases h0 : n < 0
  · obtain ⟨m, hm⟩ : ∃ m : Nat, m = (-1 - n).toNat := ⟨_, rfl⟩
    have em : (-1 - n) = (m : Int) := by omega
    have hml : m ≤ 9223372036854775807 := by omega
    have ez : wz true (m + 1) = n := by unfold wz; simp; omega
    have EM := hidP em; have EZ := hidP ez
    clear em ez hm
    go_enter Try.func63, Try.ntmps63
    go_wp2_with fail
    rw [EM.out]
    refine (r01_Of_any m (by omega) _).mono ?_
    rintro e w1 ⟨a1, n1, cap1, rfl, hs1, he1⟩
    have z0 := he1.cell' (p := ⟨w.heap.size, 0, none⟩) (v := .bool false) (by go_simp; try rfl)
    have q0 : w1.frozen? ⟨w.heap.size, 0, none⟩ = false := (he1.frozen (p := ⟨w.heap.size, 0, none⟩) (by simp)).trans (by go_simp)
    have z1 := he1.cell' (p := ⟨w.heap.size, 1, none⟩) (v := .slice none 0 0) (by go_simp; try rfl)
    have q1 : w1.frozen? ⟨w.heap.size, 1, none⟩ = false := (he1.frozen (p := ⟨w.heap.size, 1, none⟩) (by simp)).trans (by go_simp)
    have HE : Ext w w1 := ((Ext.refl _).alloc _).trans he1
    clear he1
    have hn1 : n1 ≤ 2 := by
      have h3 := hs1.int_len
      have h4 : (dig B32 m).length ≤ 2 := dig_len_le B32_two (by unfold B32; omega)
      omega
    go_wp2_with fail
    have hlit := Sl.lit w1 57 #[.int .u32 1] 1 rfl (by omega)
    refine (r01_Add_any a1 _ n1 cap1 1 1 _ [1] _ (hs1.ext ((Ext.refl _).alloc _)) hlit (Ws.dig _) (by intro d hd; simp at hd; subst hd; decide) (by omega) (by omega)).mono ?_
    rw [val_dig B32_two, show val B32 [1] = 1 by simp [val]]
    rintro e w2 ⟨a2, n2, cap2, rfl, hs2, he2⟩
    replace he2 := ((Ext.refl w1).alloc _).trans he2
    have hn2 : n2 ≤ 2 := by
      have h3 := hs2.int_len
      have h4 : (dig B32 (m + 1)).length ≤ 2 := dig_len_le B32_two (by unfold B32; omega)
      omega
    have hgl : w.heap.size < w1.heap.size := World.block_lt_of_cell? w1 _ z0
    replace z0 := he2.cell' z0
    replace z1 := he2.cell' z1
    replace q0 := (he2.frozen (p := ⟨w.heap.size, 0, none⟩) hgl).trans q0
    replace q1 := (he2.frozen (p := ⟨w.heap.size, 1, none⟩) hgl).trans q1
    replace HE := HE.trans he2
    clear he2 hlit hs1 hgl
    go_wp2_with fail
    refine (r02_Make_any true a2 n2 cap2 _ _ hs2 (Ws.dig _) (by omega)).mono ?_
    rw [val_dig B32_two, EZ.out]
    rintro e w3 ⟨a3, n3, cap3, rfl, hs3, he3⟩
    have hgl : w.heap.size < w2.heap.size := World.block_lt_of_cell? w2 _ z0
    replace z0 := he3.cell' z0
    replace z1 := he3.cell' z1
    replace q0 := (he3.frozen (p := ⟨w.heap.size, 0, none⟩) hgl).trans q0
    replace q1 := (he3.frozen (p := ⟨w.heap.size, 1, none⟩) hgl).trans q1
    replace HE := HE.trans he3
    clear he3 hs2 hgl
    go_wp2_with fail
    refine bodyPost_cells rfl rfl Try.underlying51 rfl (by kernel_rfl) (two (by go_simp; try rfl) (by go_simp; try rfl)) rfl ?_
    exact RetW.stored z0 z1 hs3 HE (Nat.le_refl _) (by simp [h0])
  · obtain ⟨m, hm⟩ : ∃ m : Nat, n = (m : Int) := ⟨n.toNat, by omega⟩
    subst hm
    have ez : wz false m = (m : Int) := rfl
    have EZ := hidP ez
    clear ez
    go_enter Try.func63, Try.ntmps63
    go_wp2_with fail
    refine (r01_Of_any m (by omega) _).mono ?_
    rintro e w1 ⟨a1, n1, cap1, rfl, hs1, he1⟩
    have z0 := he1.cell' (p := ⟨w.heap.size, 0, none⟩) (v := .bool false) (by go_simp; try rfl)
    have q0 : w1.frozen? ⟨w.heap.size, 0, none⟩ = false := (he1.frozen (p := ⟨w.heap.size, 0, none⟩) (by simp)).trans (by go_simp)
    have z1 := he1.cell' (p := ⟨w.heap.size, 1, none⟩) (v := .slice none 0 0) (by go_simp; try rfl)
    have q1 : w1.frozen? ⟨w.heap.size, 1, none⟩ = false := (he1.frozen (p := ⟨w.heap.size, 1, none⟩) (by simp)).trans (by go_simp)
    have HE : Ext w w1 := ((Ext.refl _).alloc _).trans he1
    clear he1
    have hn1 : n1 ≤ 2 := by
      have h3 := hs1.int_len
      have h4 : (dig B32 m).length ≤ 2 := dig_len_le B32_two (by unfold B32; omega)
      omega
    go_wp2_with fail
    refine (r02_Make_any false a1 n1 cap1 _ _ hs1 (Ws.dig _) (by omega)).mono ?_
    rw [val_dig B32_two, EZ.out]
    rintro e w3 ⟨a3, n3, cap3, rfl, hs3, he3⟩
    have hgl : w.heap.size < w1.heap.size := World.block_lt_of_cell? w1 _ z0
    replace z0 := he3.cell' z0
    replace z1 := he3.cell' z1
    replace q0 := (he3.frozen (p := ⟨w.heap.size, 0, none⟩) hgl).trans q0
    replace q1 := (he3.frozen (p := ⟨w.heap.size, 1, none⟩) hgl).trans q1
    replace HE := HE.trans he3
    clear he3 hs1 hgl
    go_wp2_with fail
    refine bodyPost_cells rfl rfl Try.underlying51 rfl (by kernel_rfl) (two (by go_simp; try rfl) (by go_simp; try rfl)) rfl ?_
    exact RetW.stored z0 z1 hs3 HE (Nat.le_refl _) (by simp)

/-- The sign of a number. -/
def sgn (z : Int) : Int := if z = 0 then 0 else if z < 0 then -1 else 1

set_option maxRecDepth 100000 in
set_option maxHeartbeats 1000000 in
theorem r02_Sign_any (neg : Bool) (a : Option Addr) (n cap : Nat) (z : Int) (w : World) (hw : WhIn w neg a n cap z) :
    Calls Try.prog 77 #[.agg #[.bool neg, .slice a n cap]] w fun e w' => e = .returned (.int .i64 (sgn z)) ∧ Ext w w' := by
  obtain ⟨⟨l, hs, hl, hz⟩, hn⟩ := hw
  by_cases h0 : val B32 l = 0
  · have HR : Hid (sgn z = 0) := hidP (by subst hz; unfold wz sgn; rw [h0]; cases neg <;> rfl)
    have HB : Hid (bitlen (val B32 l) = 0) := hidP (by rw [h0]; rfl)
    clear hz h0
    go_enter Try.func77, Try.ntmps77
    go_wp2_with fail
    refine (r01_Bits_any a n cap l _ (hs.ext ((Ext.refl _).alloc _)) hl (by omega)).mono ?_
    rw [HB.out]
    rintro e w1 ⟨rfl, he1⟩
    go_wp2_with fail
    go_ret
    exact ⟨by rw [HR.out]; rfl, ((Ext.refl _).alloc _).trans he1⟩
  · have HR : Hid (sgn z = if neg then -1 else 1) := hidP (by subst hz; unfold wz sgn; cases neg <;> simp <;> omega)
    have hbz : bitlen (val B32 l) ≠ 0 := fun h => by
      have := lt_bitlen (val B32 l)
      rw [h] at this
      omega
    have hB : ((bitlen (val B32 l) : Int) == 0) = false := by simp; omega
    have HZ := hidP hz
    have hH := r01_Bits_any a n cap l
    clear hz h0 hbz
    generalize bitlen (val B32 l) = bl at *
    cases neg with
    | false =>
      go_enter Try.func77, Try.ntmps77
      go_wp2_with fail
      refine (hH _ (hs.ext ((Ext.refl _).alloc _)) hl (by omega)).mono ?_
      rintro e w1 ⟨rfl, he1⟩
      have z0 := he1.cell' (p := ⟨w.heap.size, 0, none⟩) (v := .bool false) (by go_simp; try rfl)
      clear hH
      go_wp2_with fail
      go_ret
      exact ⟨by rw [HR.out]; rfl, ((Ext.refl _).alloc _).trans he1⟩
    | true =>
      go_enter Try.func77, Try.ntmps77
      go_wp2_with fail
      refine (hH _ (hs.ext ((Ext.refl _).alloc _)) hl (by omega)).mono ?_
      rintro e w1 ⟨rfl, he1⟩
      have z0 := he1.cell' (p := ⟨w.heap.size, 0, none⟩) (v := .bool true) (by go_simp; try rfl)
      clear hH
      go_wp2_with fail
      go_ret
      exact ⟨by rw [HR.out]; rfl, ((Ext.refl _).alloc _).trans he1⟩

theorem RetW.whIn {w w' : World} {z : Int} {e : Ending} (h : RetW w z e w') (hn : (dig B32 z.natAbs).length ≤ 549755813888) :
    ∃ a n cap, e = .returned (.agg #[.bool (decide (z < 0)), .slice a n cap]) ∧ WhIn w' (decide (z < 0)) a n cap z ∧ Sl w' a n cap (ints .u32 (dig B32 z.natAbs)) ∧ Ext w w' := by
  obtain ⟨a, n, cap, rfl, hs, he⟩ := h
  have h2 := hs.int_len
  exact ⟨a, n, cap, rfl, ⟨⟨_, hs, Ws.dig _, by rw [val_dig B32_two]; exact wz_canon z⟩, by omega⟩, hs, he⟩
theorem WhIn.ext {w u : World} {neg : Bool} {a : Option Addr} {n cap : Nat} {z : Int} (h : WhIn w neg a n cap z) (he : Ext w u) : WhIn u neg a n cap z :=
  let ⟨⟨l, h1, h2, h3⟩, h4⟩ := h; ⟨⟨l, h1.ext he, h2, h3⟩, h4⟩

end Go.Proofs.Ytcipcpbjkcpgdaa
