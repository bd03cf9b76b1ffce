/- Joined: C1 D1 D3 F0 T1 E1 E2 E3 E4 E5 E6 F1 F2 F3 W1 W2 K10. -/
import Derived.Test.YtgjjalnmigdjgaaGreatProg
import Derived.Outline
import Derived.Test.YtgjjalnmigdjgaaGreatM1
import Derived.Laws.Rows
import Derived.Deep.DeepCutAuto
import Derived.Lib.BitFns
import Derived.Laws.RangeAny
import Derived.Lib.Strings
import Derived.Test.YtgjjalnmigdjgaaGreatM2
import Derived.Test.YtgjjalnmigdjgaaGreatM3
namespace Go.Proofs.YtgjjalnmigdjgaaGreat
set_option linter.unusedVariables false
open Go Go.RowKit
theorem run_loadVar_cells {P : Program} (w : World) (g : Nat) (ty : TypeId) (cs : Array Value) (d : TypeDesc) (hg : ∀ j v, cs.toList[j]? = some v → w.cell? ⟨g, j, none⟩ = some v)
    (hu : P.underlying ty = some d) (hd : (match d with | .struct _ | .array _ _ => true | _ => false) = true) (hi : (P.info? ty).map (·.size) = some cs.size) :
    (loadVar ty ⟨g, 0, none⟩).run P w = .ok (.agg cs) w := by
  have hl : (loadCells ⟨g, 0, none⟩ cs.toList.length).run P w = .ok cs.toList.toArray w :=
    run_loadCells_list (P := P) w ⟨g, 0, none⟩ cs.toList (fun j v hv => by
      have hadd : (⟨g, 0, none⟩ : Addr).add j = ⟨g, j, none⟩ := by unfold Addr.add; split <;> simp_all
      rw [hadd, hg j v hv])
  cases hq : P.info? ty with
  | none => simp [hq] at hi
  | some i =>
    have hs : i.size = cs.size := by simpa [hq] using hi
    have hagg : (isAgg ty).run P w = .ok true w := by
      unfold isAgg
      rw [Sem.run_bind, run_underlying hu w]
      cases d <;> simp_all
    simp only [Array.length_toList, Array.toArray_toList] at hl
    simp [loadVar, Sem.run_bind, hagg, sizeOf, typeInfo, hq, hs, hl]
theorem bodyPost_cells {P : Program} {fn : Func} {R : Ending → World → Prop} {a : Act} {w : World} {p : Tmp} {ty : TypeId} {d : TypeDesc} {g : Nat} {cs : Array Value} (h : fn.results = #[.cell p ty])
    (hp : a.tmps.getD p undef = .pointer (some ⟨g, 0, none⟩)) (hu : P.underlying ty = some d) (hd : (match d with | .struct _ | .array _ _ => true | _ => false) = true) (hi : (P.info? ty).map (·.size) = some cs.size)
    (hg : ∀ j v, cs.toList[j]? = some v → w.cell? ⟨g, j, none⟩ = some v) (hdef : a.defers = []) (hR : R (.returned (.agg cs)) w) : bodyPost P fn R .ret a w := by
  refine bodyPost_ret (v := .agg cs) ?_ hdef hR
  have hp' : a.tmps[p]?.getD undef = .pointer (some ⟨g, 0, none⟩) := by simpa using hp
  simp [results, h, hp', asAddr, run_loadVar_cells w g ty cs d hg hu hd hi]
end Go.Proofs.YtgjjalnmigdjgaaGreat
namespace Go.Proofs.YtgjjalnmigdjgaaGreat
set_option linter.unusedVariables false
open Go Go.RowKit
end Go.Proofs.YtgjjalnmigdjgaaGreat
namespace Go.Proofs.YtgjjalnmigdjgaaGreat
set_option linter.unusedVariables false
open Go Go.RowKit
end Go.Proofs.YtgjjalnmigdjgaaGreat
namespace Go.Proofs.YtgjjalnmigdjgaaGreat
set_option linter.unusedVariables false
open Go Go.RowKit
end Go.Proofs.YtgjjalnmigdjgaaGreat
namespace Go.Proofs.YtgjjalnmigdjgaaGreat
set_option linter.unusedVariables false
open Go Go.RowKit
end Go.Proofs.YtgjjalnmigdjgaaGreat
namespace Go.Proofs.YtgjjalnmigdjgaaGreat
set_option linter.unusedVariables false
open Go Go.RowKit
theorem two {w : World} {g : Nat} {v0 v1 : Value} (h0 : w.cell? ⟨g, 0, none⟩ = some v0) (h1 : w.cell? ⟨g, 1, none⟩ = some v1) :
    ∀ j v, (#[v0, v1] : Array Value).toList[j]? = some v → w.cell? ⟨g, j, none⟩ = some v := by
  intro j v hv
  match j, hv with
  | 0, hv => simp at hv; rw [h0, hv]
  | 1, hv => simp at hv; rw [h1, hv]
  | n + 2, hv => simp at hv
theorem Sl.set {u : World} {a : Option Addr} {n cap : Nat} {k : IntKind} {l : List Nat} (h : Sl u a n cap (ints k l)) {p : Addr} {old : Value} (v : Value) (hp : u.cell? p = some old) (hne : ∀ x, old ≠ .int k x) :
    Sl (u.setCell p v) a n cap (ints k l) := by
  refine ⟨h.1, h.2.1, h.2.2.1, fun h0 => ?_⟩
  obtain ⟨b, off, ha, hc⟩ := h.2.2.2 h0
  refine ⟨b, off, ha, fun i x hx => ?_⟩
  have h1 := hc i x hx
  rw [World.cell?_setCell_other, h1]
  rintro rfl
  rw [hp] at h1
  simp only [ints, List.getElem?_map, Option.map_eq_some_iff] at hx
  obtain ⟨y, _, rfl⟩ := hx
  exact hne _ (Option.some.inj h1)
/-- A sign and a size as a number. -/
def wz (neg : Bool) (m : Nat) : Int := if neg then -(m : Int) else (m : Int)
/-- The call hands back a whole number as no call answers another one. -/
def RetW (w : World) (z : Int) (e : Ending) (w' : World) : Prop :=
  ∃ a n cap, e = .returned (.agg #[.bool (decide (z < 0)), .slice a n cap]) ∧ Sl w' a n cap (ints .u32 (dig B32 z.natAbs)) ∧ Ext w w'
/-- Stored into a block of the call's own. -/
theorem RetW.stored {w u : World} {z : Int} {g : Nat} {b0 : Bool} {a : Option Addr} {n cap x2 x3 : Nat} {x1 : Option Addr} {b : Bool}
    (h0 : u.cell? ⟨g, 0, none⟩ = some (.bool b0)) (h1 : u.cell? ⟨g, 1, none⟩ = some (.slice x1 x2 x3)) (hs : Sl u a n cap (ints .u32 (dig B32 z.natAbs))) (he : Ext w u) (hg : w.heap.size ≤ g) (hb : b = decide (z < 0)) :
    RetW w z (.returned (.agg #[.bool b, .slice a n cap])) ((u.setCell ⟨g, 0, none⟩ (.bool b)).setCell ⟨g, 1, none⟩ (.slice a n cap)) := by
  subst hb
  refine ⟨a, n, cap, rfl, ?_, (he.store hg _).store hg _⟩
  refine (hs.set _ h0 (fun x hx => by cases hx)).set _ (old := .slice x1 x2 x3) ?_ (fun x hx => by cases hx)
  exact (World.cell?_setCell_other u ⟨g, 0, none⟩ ⟨g, 1, none⟩ _ (by simp)).trans h1
theorem dig_len_pos {m : Nat} : 0 < (dig B32 m).length ↔ m ≠ 0 := by
  constructor
  · rintro h rfl; rw [dig_zero] at h; simp at h
  · intro h; rw [dig_pos B32_two h]; simp
set_option maxRecDepth 100000 in
set_option maxHeartbeats 1000000 in
theorem r02_Make_any (neg : Bool) (a : Option Addr) (n cap : Nat) (l : List Nat) (w : World) (hs : Sl w a n cap (ints .u32 l)) (hl : Ws l) (hn : n ≤ 1099511627776) :
    Calls Tryz.prog 105 #[.bool neg, .slice a n cap] w (RetW w (wz neg (val B32 l))) := by
 have hln := hs.int_len
 have hlb := dig_val_len B32_two l hl
 have hAbs : (wz neg (val B32 l)).natAbs = val B32 l := by unfold wz; split <;> omega
 have hNeg : ∀ n2 : Nat, (dig B32 (val B32 l)).length = n2 → (neg = true ∧ 0 < n2 ↔ wz neg (val B32 l) < 0) := by
  intro n2 h2
  have := @dig_len_pos (val B32 l)
  unfold wz
  cases neg
  · simp
  simp; omega
 have HNeg := hidP hNeg
 have HA := hidP hAbs
 have HLB := hidP hlb
 clear hNeg hAbs hlb
 go_enter Tryz.func105, Tryz.ntmps105
 go_wp2_with fail
 refine (r01_half_any a n cap l _ (hs.ext ((Ext.refl _).alloc _)) hl hn).mono ?_
 rintro e w1 ⟨a1, n1, cap1, rfl, hs1, he1⟩
 have hb1 := half_len hs hl hs1
 clear hln
 go_wp2_with fail
 refine (r01_words_any a1 n1 cap1 _ _ hs1 (Hs.dig _) (by omega)).mono ?_
 rw [val_dig B16_two]
 rintro e w2 ⟨a2, n2, cap2, rfl, hs2, he2⟩
 have HN := hidP (HNeg.out n2 hs2.int_len)
 have he := he1.trans he2
 have z0 := he.cell' (p := ⟨w.heap.size, 0, none⟩) (v := .bool false) (by go_simp; try rfl)
 have q0 : w2.frozen? ⟨w.heap.size, 0, none⟩ = false := (he.frozen (p := ⟨w.heap.size, 0, none⟩) (by simp)).trans (by go_simp)
 have z1 := he.cell' (p := ⟨w.heap.size, 1, none⟩) (v := .slice none 0 0) (by go_simp; try rfl)
 have q1 : w2.frozen? ⟨w.heap.size, 1, none⟩ = false := (he.frozen (p := ⟨w.heap.size, 1, none⟩) (by simp)).trans (by go_simp)
 have HE : Ext w w2 := ((Ext.refl _).alloc _).trans he
 rw [← HA.out] at hs2
 have HS2 := hidP hs2
 have HEE := hidP HE
 clear hs2 hs1 he he1 he2 hb1 HE hs
 cases neg with
 | false =>
  go_wp2_with fail
  refine bodyPost_cells rfl rfl Tryz.underlying27 rfl (by kernel_rfl) (two (by go_simp; try rfl) (by go_simp; try rfl)) rfl ?_
  exact RetW.stored z0 z1 HS2.out HEE.out (Nat.le_refl _) (by have := HN.out; simp at this; simp; omega)
 | true =>
  by_cases h0 : 0 < n2
  · go_wp2_with fail
    refine bodyPost_cells rfl rfl Tryz.underlying27 rfl (by kernel_rfl) (two (by go_simp; try rfl) (by go_simp; try rfl)) rfl ?_
    exact RetW.stored z0 z1 HS2.out HEE.out (Nat.le_refl _) (by have := HN.out; simp at this; simp; omega)
  go_wp2_with fail
  refine bodyPost_cells rfl rfl Tryz.underlying27 rfl (by kernel_rfl) (two (by go_simp; try rfl) (by go_simp; try rfl)) rfl ?_
  exact RetW.stored z0 z1 HS2.out HEE.out (Nat.le_refl _) (by have := HN.out; simp at this; simp; omega)
/-- A whole number that came in, or was answered. -/
structure WhIn (w : World) (neg : Bool) (a : Option Addr) (n cap : Nat) (z : Int) : Prop where
  sl : ∃ l, Sl w a n cap (ints .u32 l) ∧ Ws l ∧ wz neg (val B32 l) = z
  le : n ≤ 549755813888
theorem wz_canon (z : Int) : wz (decide (z < 0)) z.natAbs = z := by
  unfold wz
  by_cases h : z < 0
  · simp [h]; omega
  · simp [h]; omega
set_option maxRecDepth 100000 in
set_option maxHeartbeats 1000000 in
theorem r02_Of_any (n : Int) (w : World) (h1 : -9223372036854775808 ≤ n) (h2 : n ≤ 9223372036854775807) :
    Calls Tryz.prog 56 #[.int .i64 n] w (RetW w n) := by
 by_cases h0 : n < 0
 · obtain ⟨m, hm⟩ : ∃ m : Nat, m = (-1 - n).toNat := ⟨_, rfl⟩
   have em : (-1 - n) = (m : Int) := by omega
   have hml : m ≤ 9223372036854775807 := by omega
   have ez : wz true (m + 1) = n := by unfold wz; simp; omega
   have EM := hidP em; have EZ := hidP ez
   clear em ez hm
   go_enter Tryz.func56, Tryz.ntmps56
   go_wp2_with fail
   rw [EM.out]
   refine (r01_Of_any m (by omega) _).mono ?_
   rintro e w1 ⟨a1, n1, cap1, rfl, hs1, he1⟩
   have z0 := he1.cell' (p := ⟨w.heap.size, 0, none⟩) (v := .bool false) (by go_simp; try rfl)
   have q0 : w1.frozen? ⟨w.heap.size, 0, none⟩ = false := (he1.frozen (p := ⟨w.heap.size, 0, none⟩) (by simp)).trans (by go_simp)
   have z1 := he1.cell' (p := ⟨w.heap.size, 1, none⟩) (v := .slice none 0 0) (by go_simp; try rfl)
   have q1 : w1.frozen? ⟨w.heap.size, 1, none⟩ = false := (he1.frozen (p := ⟨w.heap.size, 1, none⟩) (by simp)).trans (by go_simp)
   have HE : Ext w w1 := ((Ext.refl _).alloc _).trans he1
   clear he1
   have hn1 : n1 ≤ 2 := by
    have h3 := hs1.int_len
    have h4 : (dig B32 m).length ≤ 2 := dig_len_le B32_two (by unfold B32; omega)
    omega
   go_wp2_with fail
   have hlit := Sl.lit w1 98 #[.int .u32 1] 1 rfl (by omega)
   refine (r01_Add_any a1 _ n1 cap1 1 1 _ [1] _ (hs1.ext ((Ext.refl _).alloc _)) hlit (Ws.dig _) (by intro d hd; simp at hd; subst hd; decide) (by omega) (by omega)).mono ?_
   rw [val_dig B32_two, show val B32 [1] = 1 by simp [val]]
   rintro e w2 ⟨a2, n2, cap2, rfl, hs2, he2⟩
   replace he2 := ((Ext.refl w1).alloc _).trans he2
   have hn2 : n2 ≤ 2 := by
    have h3 := hs2.int_len
    have h4 : (dig B32 (m + 1)).length ≤ 2 := dig_len_le B32_two (by unfold B32; omega)
    omega
   have hgl : w.heap.size < w1.heap.size := World.block_lt_of_cell? w1 _ z0
   replace z0 := he2.cell' z0
   replace z1 := he2.cell' z1
   replace q0 := (he2.frozen (p := ⟨w.heap.size, 0, none⟩) hgl).trans q0
   replace q1 := (he2.frozen (p := ⟨w.heap.size, 1, none⟩) hgl).trans q1
   replace HE := HE.trans he2
   clear he2 hlit hs1 hgl
   go_wp2_with fail
   refine (r02_Make_any true a2 n2 cap2 _ _ hs2 (Ws.dig _) (by omega)).mono ?_
   rw [val_dig B32_two, EZ.out]
   rintro e w3 ⟨a3, n3, cap3, rfl, hs3, he3⟩
   have hgl : w.heap.size < w2.heap.size := World.block_lt_of_cell? w2 _ z0
   replace z0 := he3.cell' z0
   replace z1 := he3.cell' z1
   replace q0 := (he3.frozen (p := ⟨w.heap.size, 0, none⟩) hgl).trans q0
   replace q1 := (he3.frozen (p := ⟨w.heap.size, 1, none⟩) hgl).trans q1
   replace HE := HE.trans he3
   clear he3 hs2 hgl
   go_wp2_with fail
   refine bodyPost_cells rfl rfl Tryz.underlying27 rfl (by kernel_rfl) (two (by go_simp; try rfl) (by go_simp; try rfl)) rfl ?_
   exact RetW.stored z0 z1 hs3 HE (Nat.le_refl _) (by simp [h0])
 obtain ⟨m, hm⟩ : ∃ m : Nat, n = (m : Int) := ⟨n.toNat, by omega⟩
 subst hm
 have ez : wz false m = (m : Int) := rfl
 have EZ := hidP ez
 clear ez
 go_enter Tryz.func56, Tryz.ntmps56
 go_wp2_with fail
 refine (r01_Of_any m (by omega) _).mono ?_
 rintro e w1 ⟨a1, n1, cap1, rfl, hs1, he1⟩
 have z0 := he1.cell' (p := ⟨w.heap.size, 0, none⟩) (v := .bool false) (by go_simp; try rfl)
 have q0 : w1.frozen? ⟨w.heap.size, 0, none⟩ = false := (he1.frozen (p := ⟨w.heap.size, 0, none⟩) (by simp)).trans (by go_simp)
 have z1 := he1.cell' (p := ⟨w.heap.size, 1, none⟩) (v := .slice none 0 0) (by go_simp; try rfl)
 have q1 : w1.frozen? ⟨w.heap.size, 1, none⟩ = false := (he1.frozen (p := ⟨w.heap.size, 1, none⟩) (by simp)).trans (by go_simp)
 have HE : Ext w w1 := ((Ext.refl _).alloc _).trans he1
 clear he1
 have hn1 : n1 ≤ 2 := by
  have h3 := hs1.int_len
  have h4 : (dig B32 m).length ≤ 2 := dig_len_le B32_two (by unfold B32; omega)
  omega
 go_wp2_with fail
 refine (r02_Make_any false a1 n1 cap1 _ _ hs1 (Ws.dig _) (by omega)).mono ?_
 rw [val_dig B32_two, EZ.out]
 rintro e w3 ⟨a3, n3, cap3, rfl, hs3, he3⟩
 have hgl : w.heap.size < w1.heap.size := World.block_lt_of_cell? w1 _ z0
 replace z0 := he3.cell' z0
 replace z1 := he3.cell' z1
 replace q0 := (he3.frozen (p := ⟨w.heap.size, 0, none⟩) hgl).trans q0
 replace q1 := (he3.frozen (p := ⟨w.heap.size, 1, none⟩) hgl).trans q1
 replace HE := HE.trans he3
 clear he3 hs1 hgl
 go_wp2_with fail
 refine bodyPost_cells rfl rfl Tryz.underlying27 rfl (by kernel_rfl) (two (by go_simp; try rfl) (by go_simp; try rfl)) rfl ?_
 exact RetW.stored z0 z1 hs3 HE (Nat.le_refl _) (by simp)
/-- The sign of a number. -/
def sgn (z : Int) : Int := if z = 0 then 0 else if z < 0 then -1 else 1
set_option maxRecDepth 100000 in
set_option maxHeartbeats 1000000 in
theorem r02_Sign_any (neg : Bool) (a : Option Addr) (n cap : Nat) (z : Int) (w : World) (hw : WhIn w neg a n cap z) :
    Calls Tryz.prog 141 #[.agg #[.bool neg, .slice a n cap]] w fun e w' => e = .returned (.int .i64 (sgn z)) ∧ Ext w w' := by
  obtain ⟨⟨l, hs, hl, hz⟩, hn⟩ := hw
  by_cases h0 : val B32 l = 0
  · have HR : Hid (sgn z = 0) := hidP (by subst hz; unfold wz sgn; rw [h0]; cases neg <;> rfl)
    have HB : Hid (bitlen (val B32 l) = 0) := hidP (by rw [h0]; rfl)
    clear hz h0
    go_enter Tryz.func141, Tryz.ntmps141
    go_wp2_with fail
    refine (r01_Bits_any a n cap l _ (hs.ext ((Ext.refl _).alloc _)) hl (by omega)).mono ?_
    rw [HB.out]
    rintro e w1 ⟨rfl, he1⟩
    go_wp2_with fail
    go_ret
    exact ⟨by rw [HR.out]; rfl, ((Ext.refl _).alloc _).trans he1⟩
  · have HR : Hid (sgn z = if neg then -1 else 1) := hidP (by subst hz; unfold wz sgn; cases neg <;> simp <;> omega)
    have hbz : bitlen (val B32 l) ≠ 0 := fun h => by
      have := lt_bitlen (val B32 l)
      rw [h] at this
      omega
    have hB : ((bitlen (val B32 l) : Int) == 0) = false := by simp; omega
    have HZ := hidP hz
    have hH := r01_Bits_any a n cap l
    clear hz h0 hbz
    generalize bitlen (val B32 l) = bl at *
    cases neg with
    | false =>
      go_enter Tryz.func141, Tryz.ntmps141
      go_wp2_with fail
      refine (hH _ (hs.ext ((Ext.refl _).alloc _)) hl (by omega)).mono ?_
      rintro e w1 ⟨rfl, he1⟩
      have z0 := he1.cell' (p := ⟨w.heap.size, 0, none⟩) (v := .bool false) (by go_simp; try rfl)
      clear hH
      go_wp2_with fail
      go_ret
      exact ⟨by rw [HR.out]; rfl, ((Ext.refl _).alloc _).trans he1⟩
    | true =>
      go_enter Tryz.func141, Tryz.ntmps141
      go_wp2_with fail
      refine (hH _ (hs.ext ((Ext.refl _).alloc _)) hl (by omega)).mono ?_
      rintro e w1 ⟨rfl, he1⟩
      have z0 := he1.cell' (p := ⟨w.heap.size, 0, none⟩) (v := .bool true) (by go_simp; try rfl)
      clear hH
      go_wp2_with fail
      go_ret
      exact ⟨by rw [HR.out]; rfl, ((Ext.refl _).alloc _).trans he1⟩
theorem RetW.whIn {w w' : World} {z : Int} {e : Ending} (h : RetW w z e w') (hn : (dig B32 z.natAbs).length ≤ 549755813888) :
    ∃ a n cap, e = .returned (.agg #[.bool (decide (z < 0)), .slice a n cap]) ∧ WhIn w' (decide (z < 0)) a n cap z ∧ Sl w' a n cap (ints .u32 (dig B32 z.natAbs)) ∧ Ext w w' := by
  obtain ⟨a, n, cap, rfl, hs, he⟩ := h
  have h2 := hs.int_len
  exact ⟨a, n, cap, rfl, ⟨⟨_, hs, Ws.dig _, by rw [val_dig B32_two]; exact wz_canon z⟩, by omega⟩, hs, he⟩
theorem WhIn.ext {w u : World} {neg : Bool} {a : Option Addr} {n cap : Nat} {z : Int} (h : WhIn w neg a n cap z) (he : Ext w u) : WhIn u neg a n cap z :=
  let ⟨⟨l, h1, h2, h3⟩, h4⟩ := h; ⟨⟨l, h1.ext he, h2, h3⟩, h4⟩
end Go.Proofs.YtgjjalnmigdjgaaGreat
namespace Go.Proofs.YtgjjalnmigdjgaaGreat
set_option linter.unusedVariables false
open Go Go.RowKit
theorem wz_not (neg : Bool) (m : Nat) : wz (!neg) m = -wz neg m := by unfold wz; cases neg <;> simp
set_option maxRecDepth 100000 in
set_option maxHeartbeats 1000000 in
theorem r02_Neg_any (neg : Bool) (a : Option Addr) (n cap : Nat) (z : Int) (w : World) (hw : WhIn w neg a n cap z) :
    Calls Tryz.prog 150 #[.agg #[.bool neg, .slice a n cap]] w (RetW w (-z)) := by
  obtain ⟨⟨l, hs, hl, hz⟩, hn⟩ := hw
  have hzz : wz (!neg) (val B32 l) = -z := by rw [wz_not, hz]
  have HZ := hidP hzz
  clear hz hzz
  go_enter Tryz.func150, Tryz.ntmps150
  go_wp2_with fail
  refine (r02_Make_any (!neg) a n cap l _ (hs.ext (((Ext.refl _).alloc _).alloc _)) hl (by omega)).mono ?_
  rw [HZ.out]
  rintro e w1 ⟨a1, n1, cap1, rfl, hs1, he1⟩
  have z0 := he1.cell' (p := ⟨w.heap.size + 1, 0, none⟩) (v := .bool false) (by go_simp; try rfl)
  have qz0 : w1.frozen? ⟨w.heap.size + 1, 0, none⟩ = false := (he1.frozen (p := ⟨w.heap.size + 1, 0, none⟩) (by simp)).trans (by go_simp)
  have z1 := he1.cell' (p := ⟨w.heap.size + 1, 1, none⟩) (v := .slice none 0 0) (by go_simp; try rfl)
  have qz1 : w1.frozen? ⟨w.heap.size + 1, 1, none⟩ = false := (he1.frozen (p := ⟨w.heap.size + 1, 1, none⟩) (by simp)).trans (by go_simp)
  have HE : Ext w w1 := (((Ext.refl _).alloc _).alloc _).trans he1
  clear he1
  go_wp2_with fail
  refine bodyPost_cells rfl rfl Tryz.underlying27 rfl (by kernel_rfl) (two (by go_simp; try rfl) (by go_simp; try rfl)) rfl ?_
  exact RetW.stored z0 z1 hs1 HE (Nat.le_succ _) (by simp)
theorem add_same {b : Bool} {x y : Nat} : wz b (x + y) = wz b x + wz b y := by unfold wz; cases b <;> simp <;> omega
theorem add_other {b b' : Bool} {x y : Nat} (hb : b ≠ b') (h : y ≤ x) : wz b (x - y) = wz b x + wz b' y := by
  unfold wz
  cases b <;> cases b' <;> simp at hb <;> simp <;> omega
theorem add_other' {b b' : Bool} {x y : Nat} (hb : b ≠ b') (h : x ≤ y) : wz b' (y - x) = wz b x + wz b' y := by
  unfold wz
  cases b <;> cases b' <;> simp at hb <;> simp <;> omega
theorem dig_add_len (x y : List Nat) (hx : Ws x) (hy : Ws y) (N : Nat) (h1 : x.length ≤ N) (h2 : y.length ≤ N) : (dig B32 (val B32 x + val B32 y)).length ≤ N + 1 := by
  have a1 := val_lt (B := B32) (by decide) x hx
  have a2 := val_lt (B := B32) (by decide) y hy
  have b1 : B32 ^ x.length ≤ B32 ^ N := Nat.pow_le_pow_right (by decide) h1
  have b2 : B32 ^ y.length ≤ B32 ^ N := Nat.pow_le_pow_right (by decide) h2
  refine dig_len_le B32_two ?_
  rw [Nat.pow_succ]
  have : B32 ^ N * 2 ≤ B32 ^ N * B32 := Nat.mul_le_mul_left _ B32_two
  omega
set_option maxRecDepth 100000 in
set_option maxHeartbeats 4000000 in
theorem r02_Add_any (neg neg' : Bool) (a a' : Option Addr) (n cap n' cap' : Nat) (z z' : Int) (w : World) (hw : WhIn w neg a n cap z) (hw' : WhIn w neg' a' n' cap' z') :
    Calls Tryz.prog 102 #[.agg #[.bool neg, .slice a n cap], .agg #[.bool neg', .slice a' n' cap']] w (RetW w (z + z')) := by
 obtain ⟨⟨l, hs, hl, hz⟩, hn⟩ := hw
 obtain ⟨⟨l', hs', hl', hz'⟩, hn'⟩ := hw'
 have hln := hs.int_len
 have hln' := hs'.int_len
 have HS := hidP hs; have HS' := hidP hs'
 clear hs hs'
 by_cases hb : neg = neg'
 · subst hb
   have hzz : wz neg (val B32 l + val B32 l') = z + z' := by rw [add_same, hz, hz']
   have hlen := dig_add_len l l' hl hl' 549755813888 (by omega) (by omega)
   have HZ := hidP hzz; have HLEN := hidP hlen
   clear hz hz' hzz hlen hln hln'
   go_enter Tryz.func102, Tryz.ntmps102
   go_upto_region 2 with fail
   obtain ⟨w0, hw0⟩ : ∃ w0 : World, w0 = World.drew (((w.alloc (.cells #[.bool neg, .slice a n cap] 27)).alloc (.cells #[.bool neg, .slice a' n' cap'] 27)).alloc (.cells #[.bool false, .slice none 0 0] 27)) := ⟨_, rfl⟩
   have c0 : w0.cell? ⟨w.heap.size, 0, none⟩ = some (.bool neg) := by rw [hw0]; go_simp; try rfl
   have c1 : w0.cell? ⟨w.heap.size, 1, none⟩ = some (.slice a n cap) := by rw [hw0]; go_simp; try rfl
   have d0 : w0.cell? ⟨w.heap.size + 1, 0, none⟩ = some (.bool neg) := by rw [hw0]; go_simp; try rfl
   have d1 : w0.cell? ⟨w.heap.size + 1, 1, none⟩ = some (.slice a' n' cap') := by rw [hw0]; go_simp; try rfl
   have z0 : w0.cell? ⟨w.heap.size + 1 + 1, 0, none⟩ = some (.bool false) := by rw [hw0]; go_simp; try rfl
   have qz0 : w0.frozen? ⟨w.heap.size + 1 + 1, 0, none⟩ = false := by rw [hw0]; go_simp; try rfl
   have z1 : w0.cell? ⟨w.heap.size + 1 + 1, 1, none⟩ = some (.slice none 0 0) := by rw [hw0]; go_simp; try rfl
   have qz1 : w0.frozen? ⟨w.heap.size + 1 + 1, 1, none⟩ = false := by rw [hw0]; go_simp; try rfl
   have HE : Ext w w0 := by rw [hw0]; exact ((((Ext.refl _).alloc _).alloc _).alloc _).drew
   refine wp_region_plan (R := Ext) (.q 0 (.q 1 (.q 2 (.q 3 (.q 4 (.q 5 (.l 6 (.l 7 (.b 8 .done))))))))) (by kernel_rfl) (by kernel_rfl) (by kernel_rfl) (by kernel_rfl) Ext.refl (fun _ _ _ => Ext.trans) ?_
   rw [← hw0]
   clear hw0
   repeat (refine wpE_q (v := ?_) rfl rfl (fun u hu => ?_) ?_; rotate_left 1; (focus ((have k0 := hu.cell' c0; have k1 := hu.cell' c1; have k2 := hu.cell' d0; have k3 := hu.cell' d1); go_simp; (try rfl))); simp only [PU])
   refine wpE_l rfl rfl (fun K hK => ?_)
   go_simp
   refine (r01_Add_any a a' n cap n' cap' l l' _ (HS.out.ext HE) (HS'.out.ext HE) hl hl' (by omega) (by omega)).mono ?_
   rintro e w1 ⟨a1, n1, cap1, rfl, hs1, he1⟩
   refine hK.out _ _ he1 ?_
   clear hK K
   have hgl : w.heap.size + 1 + 1 < w0.heap.size := World.block_lt_of_cell? w0 _ z0
   replace z0 := he1.cell' z0
   replace z1 := he1.cell' z1
   replace qz0 := (he1.frozen (p := ⟨w.heap.size + 1 + 1, 0, none⟩) hgl).trans qz0
   replace qz1 := (he1.frozen (p := ⟨w.heap.size + 1 + 1, 1, none⟩) hgl).trans qz1
   clear c0 c1 d0 d1
   replace HE := HE.trans he1
   clear he1 hgl
   try simp only [PU]
   refine wpE_l rfl rfl (fun K hK => ?_)
   go_simp
   refine (r02_Make_any neg a1 n1 cap1 _ _ hs1 (Ws.dig _) (by have h3 := hs1.int_len; have h4 := HLEN.out; omega)).mono ?_
   rw [val_dig B32_two, HZ.out]
   rintro e w2 ⟨a2, n2, cap2, rfl, hs2, he2⟩
   refine hK.out _ _ he2 ?_
   clear hK K
   have hgl : w.heap.size + 1 + 1 < w1.heap.size := World.block_lt_of_cell? w1 _ z0
   replace z0 := he2.cell' z0
   replace z1 := he2.cell' z1
   replace qz0 := (he2.frozen (p := ⟨w.heap.size + 1 + 1, 0, none⟩) hgl).trans qz0
   replace qz1 := (he2.frozen (p := ⟨w.heap.size + 1 + 1, 1, none⟩) hgl).trans qz1
   replace HE := HE.trans he2
   clear he2 hgl hs1
   try simp only [PU]
   refine wpE_b rfl rfl (fun K hK => ?_)
   go_simp
   refine hK.out _ _ ?_
   clear hK K
   try simp only [PU]
   refine wpE_done ?_
   go_wp2_with fail
   refine bodyPost_cells rfl rfl Tryz.underlying27 rfl (by kernel_rfl) (two (by go_simp; try rfl) (by go_simp; try rfl)) rfl ?_
   exact RetW.stored z0 z1 hs2 HE (by omega) rfl
 have hbe : (neg == neg') = false := by simpa using hb
 have HB := hidP hb
 clear hb
 by_cases hc : val B32 l' ≤ val B32 l
 · have hzz : wz neg (val B32 l - val B32 l') = z + z' := by rw [add_other HB.out hc, hz, hz']
   have hlen : (dig B32 (val B32 l - val B32 l')).length ≤ n := by
    have h1 := dig_mono B32_two (Nat.sub_le (val B32 l) (val B32 l'))
    have h2 := dig_val_len B32_two l hl
    omega
   have hcm : (0 : Int) ≤ cmpI (val B32 l) (val B32 l') := cmpI_ge hc
   have HZ := hidP hzz; have HLEN := hidP hlen
   generalize hcc : cmpI (val B32 l) (val B32 l') = cc at *
   have HCC := hidP hcc; clear hcc
   clear hz hz' hzz hlen hln hln' hc
   go_enter Tryz.func102, Tryz.ntmps102
   go_wp2_with fail
   refine (r01_Cmp_any a a' n cap n' cap' l l' _ (HS.out.ext ((((Ext.refl _).alloc _).alloc _).alloc _)) (HS'.out.ext ((((Ext.refl _).alloc _).alloc _).alloc _)) hl hl' (by omega) (by omega)).mono ?_
   rw [HCC.out]
   rintro e w1 ⟨rfl, he1⟩
   have c0 := he1.cell' (p := ⟨w.heap.size, 0, none⟩) (v := .bool neg) (by go_simp; try rfl)
   have c1 := he1.cell' (p := ⟨w.heap.size, 1, none⟩) (v := .slice a n cap) (by go_simp; try rfl)
   have d0 := he1.cell' (p := ⟨w.heap.size + 1, 0, none⟩) (v := .bool neg') (by go_simp; try rfl)
   have d1 := he1.cell' (p := ⟨w.heap.size + 1, 1, none⟩) (v := .slice a' n' cap') (by go_simp; try rfl)
   have z0 := he1.cell' (p := ⟨w.heap.size + 1 + 1, 0, none⟩) (v := .bool false) (by go_simp; try rfl)
   have qz0 : w1.frozen? ⟨w.heap.size + 1 + 1, 0, none⟩ = false := (he1.frozen (p := ⟨w.heap.size + 1 + 1, 0, none⟩) (by simp)).trans (by go_simp)
   have z1 := he1.cell' (p := ⟨w.heap.size + 1 + 1, 1, none⟩) (v := .slice none 0 0) (by go_simp; try rfl)
   have qz1 : w1.frozen? ⟨w.heap.size + 1 + 1, 1, none⟩ = false := (he1.frozen (p := ⟨w.heap.size + 1 + 1, 1, none⟩) (by simp)).trans (by go_simp)
   have HE : Ext w w1 := ((((Ext.refl _).alloc _).alloc _).alloc _).trans he1
   clear he1
   go_wp2_with fail
   refine (r01_Sub_any a a' n cap n' cap' l l' _ (HS.out.ext HE) (HS'.out.ext HE) hl hl' (by omega) (by omega)).mono ?_
   rintro e w2 ⟨a2, n2, cap2, rfl, hs2, he2⟩
   replace qz0 := (he2.frozen (p := ⟨w.heap.size + 1 + 1, 0, none⟩) (World.block_lt_of_cell? w1 _ z0)).trans qz0
   replace qz1 := (he2.frozen (p := ⟨w.heap.size + 1 + 1, 1, none⟩) (World.block_lt_of_cell? w1 _ z1)).trans qz1
   replace c0 := he2.cell' c0
   replace c1 := he2.cell' c1
   replace d0 := he2.cell' d0
   replace d1 := he2.cell' d1
   replace z0 := he2.cell' z0
   replace z1 := he2.cell' z1
   replace HE := HE.trans he2
   clear he2
   have hn2 : n2 ≤ 549755813888 := by have h3 := hs2.int_len; have h4 := HLEN.out; omega
   generalize decide (val B32 l' ≤ val B32 l) = okb at *
   go_wp2_with fail
   refine (r02_Make_any neg a2 n2 cap2 _ _ hs2 (Ws.dig _) (by omega)).mono ?_
   rw [val_dig B32_two, HZ.out]
   rintro e w3 ⟨a3, n3, cap3, rfl, hs3, he3⟩
   replace qz0 := (he3.frozen (p := ⟨w.heap.size + 1 + 1, 0, none⟩) (World.block_lt_of_cell? w2 _ z0)).trans qz0
   replace qz1 := (he3.frozen (p := ⟨w.heap.size + 1 + 1, 1, none⟩) (World.block_lt_of_cell? w2 _ z1)).trans qz1
   replace c0 := he3.cell' c0
   replace c1 := he3.cell' c1
   replace d0 := he3.cell' d0
   replace d1 := he3.cell' d1
   replace z0 := he3.cell' z0
   replace z1 := he3.cell' z1
   replace HE := HE.trans he3
   clear he3 hs2
   go_wp2_with fail
   refine bodyPost_cells rfl rfl Tryz.underlying27 rfl (by kernel_rfl) (two (by go_simp; try rfl) (by go_simp; try rfl)) rfl ?_
   exact RetW.stored z0 z1 hs3 HE (by omega) rfl
 have hlt : val B32 l < val B32 l' := by omega
 have hzz : wz neg' (val B32 l' - val B32 l) = z + z' := by rw [add_other' HB.out (Nat.le_of_lt hlt), hz, hz']
 have hlen : (dig B32 (val B32 l' - val B32 l)).length ≤ n' := by
  have h1 := dig_mono B32_two (Nat.sub_le (val B32 l') (val B32 l))
  have h2 := dig_val_len B32_two l' hl'
  omega
 have hcm : cmpI (val B32 l) (val B32 l') = -1 := cmpI_lt hlt
 have HZ := hidP hzz; have HLEN := hidP hlen
 have HCC := hidP hcm; clear hcm
 clear hz hz' hzz hlen hln hln' hc hlt
 go_enter Tryz.func102, Tryz.ntmps102
 go_wp2_with fail
 refine (r01_Cmp_any a a' n cap n' cap' l l' _ (HS.out.ext ((((Ext.refl _).alloc _).alloc _).alloc _)) (HS'.out.ext ((((Ext.refl _).alloc _).alloc _).alloc _)) hl hl' (by omega) (by omega)).mono ?_
 rw [HCC.out]
 rintro e w1 ⟨rfl, he1⟩
 have c0 := he1.cell' (p := ⟨w.heap.size, 0, none⟩) (v := .bool neg) (by go_simp; try rfl)
 have c1 := he1.cell' (p := ⟨w.heap.size, 1, none⟩) (v := .slice a n cap) (by go_simp; try rfl)
 have d0 := he1.cell' (p := ⟨w.heap.size + 1, 0, none⟩) (v := .bool neg') (by go_simp; try rfl)
 have d1 := he1.cell' (p := ⟨w.heap.size + 1, 1, none⟩) (v := .slice a' n' cap') (by go_simp; try rfl)
 have z0 := he1.cell' (p := ⟨w.heap.size + 1 + 1, 0, none⟩) (v := .bool false) (by go_simp; try rfl)
 have qz0 : w1.frozen? ⟨w.heap.size + 1 + 1, 0, none⟩ = false := (he1.frozen (p := ⟨w.heap.size + 1 + 1, 0, none⟩) (by simp)).trans (by go_simp)
 have z1 := he1.cell' (p := ⟨w.heap.size + 1 + 1, 1, none⟩) (v := .slice none 0 0) (by go_simp; try rfl)
 have qz1 : w1.frozen? ⟨w.heap.size + 1 + 1, 1, none⟩ = false := (he1.frozen (p := ⟨w.heap.size + 1 + 1, 1, none⟩) (by simp)).trans (by go_simp)
 have HE : Ext w w1 := ((((Ext.refl _).alloc _).alloc _).alloc _).trans he1
 clear he1
 go_wp2_with fail
 refine (r01_Sub_any a' a n' cap' n cap l' l _ (HS'.out.ext HE) (HS.out.ext HE) hl' hl (by omega) (by omega)).mono ?_
 rintro e w2 ⟨a2, n2, cap2, rfl, hs2, he2⟩
 replace qz0 := (he2.frozen (p := ⟨w.heap.size + 1 + 1, 0, none⟩) (World.block_lt_of_cell? w1 _ z0)).trans qz0
 replace qz1 := (he2.frozen (p := ⟨w.heap.size + 1 + 1, 1, none⟩) (World.block_lt_of_cell? w1 _ z1)).trans qz1
 replace c0 := he2.cell' c0
 replace c1 := he2.cell' c1
 replace d0 := he2.cell' d0
 replace d1 := he2.cell' d1
 replace z0 := he2.cell' z0
 replace z1 := he2.cell' z1
 replace HE := HE.trans he2
 clear he2
 have hn2 : n2 ≤ 549755813888 := by have h3 := hs2.int_len; have h4 := HLEN.out; omega
 generalize decide (val B32 l ≤ val B32 l') = okb at *
 go_wp2_with fail
 refine (r02_Make_any neg' a2 n2 cap2 _ _ hs2 (Ws.dig _) (by omega)).mono ?_
 rw [val_dig B32_two, HZ.out]
 rintro e w3 ⟨a3, n3, cap3, rfl, hs3, he3⟩
 replace qz0 := (he3.frozen (p := ⟨w.heap.size + 1 + 1, 0, none⟩) (World.block_lt_of_cell? w2 _ z0)).trans qz0
 replace qz1 := (he3.frozen (p := ⟨w.heap.size + 1 + 1, 1, none⟩) (World.block_lt_of_cell? w2 _ z1)).trans qz1
 replace c0 := he3.cell' c0
 replace c1 := he3.cell' c1
 replace d0 := he3.cell' d0
 replace d1 := he3.cell' d1
 replace z0 := he3.cell' z0
 replace z1 := he3.cell' z1
 replace HE := HE.trans he3
 clear he3 hs2
 go_wp2_with fail
 refine bodyPost_cells rfl rfl Tryz.underlying27 rfl (by kernel_rfl) (two (by go_simp; try rfl) (by go_simp; try rfl)) rfl ?_
 exact RetW.stored z0 z1 hs3 HE (by omega) rfl
end Go.Proofs.YtgjjalnmigdjgaaGreat
namespace Go.Proofs.YtgjjalnmigdjgaaGreat
set_option linter.unusedVariables false
open Go Go.RowKit
theorem natAbs_len {z : Int} {N : Nat} (h : z.natAbs < B32 ^ N) : (dig B32 z.natAbs).length ≤ N := dig_len_le B32_two h
theorem WhIn.lt {w : World} {neg : Bool} {a : Option Addr} {n cap : Nat} {z : Int} (h : WhIn w neg a n cap z) : z.natAbs < B32 ^ n := by
  obtain ⟨⟨l, hs, hl, hz⟩, hn⟩ := h
  have := val_lt (B := B32) (by decide) l hl
  rw [hs.int_len] at this
  have h2 : z.natAbs = val B32 l := by rw [← hz]; unfold wz; split <;> omega
  rw [h2]; exact this
set_option maxRecDepth 100000 in
set_option maxHeartbeats 2000000 in
theorem r02_Sub_any (neg neg' : Bool) (a a' : Option Addr) (n cap n' cap' : Nat) (z z' : Int) (w : World) (hw : WhIn w neg a n cap z) (hw' : WhIn w neg' a' n' cap' z') :
    Calls Tryz.prog 142 #[.agg #[.bool neg, .slice a n cap], .agg #[.bool neg', .slice a' n' cap']] w (RetW w (z - z')) := by
 have hN : (dig B32 (-z').natAbs).length ≤ 549755813888 := by
  have h1 := hw'.lt
  have h2 := natAbs_len (z := -z') (N := n') (by simpa using h1)
  have := hw'.le
  omega
 have HN := hidP hN
 have HW := hidP hw; have HW' := hidP hw'
 clear hN hw hw'
 go_enter Tryz.func142, Tryz.ntmps142
 go_upto_region 1 with fail
 obtain ⟨w0, hw0⟩ : ∃ w0 : World, w0 = World.drew (((w.alloc (.cells #[.bool neg, .slice a n cap] 27)).alloc (.cells #[.bool neg', .slice a' n' cap'] 27)).alloc (.cells #[.bool false, .slice none 0 0] 27)) := ⟨_, rfl⟩
 have c0 : w0.cell? ⟨w.heap.size, 0, none⟩ = some (.bool neg) := by rw [hw0]; go_simp; try rfl
 have c1 : w0.cell? ⟨w.heap.size, 1, none⟩ = some (.slice a n cap) := by rw [hw0]; go_simp; try rfl
 have d0 : w0.cell? ⟨w.heap.size + 1, 0, none⟩ = some (.bool neg') := by rw [hw0]; go_simp; try rfl
 have d1 : w0.cell? ⟨w.heap.size + 1, 1, none⟩ = some (.slice a' n' cap') := by rw [hw0]; go_simp; try rfl
 have z0 : w0.cell? ⟨w.heap.size + 1 + 1, 0, none⟩ = some (.bool false) := by rw [hw0]; go_simp; try rfl
 have qz0 : w0.frozen? ⟨w.heap.size + 1 + 1, 0, none⟩ = false := by rw [hw0]; go_simp; try rfl
 have z1 : w0.cell? ⟨w.heap.size + 1 + 1, 1, none⟩ = some (.slice none 0 0) := by rw [hw0]; go_simp; try rfl
 have qz1 : w0.frozen? ⟨w.heap.size + 1 + 1, 1, none⟩ = false := by rw [hw0]; go_simp; try rfl
 have HE : Ext w w0 := by rw [hw0]; exact ((((Ext.refl _).alloc _).alloc _).alloc _).drew
 refine wp_region_plan (R := Ext) (.q 0 (.q 1 (.l 2 (.l 3 (.b 4 .done))))) (by kernel_rfl) (by kernel_rfl) (by kernel_rfl) (by kernel_rfl) Ext.refl (fun _ _ _ => Ext.trans) ?_
 rw [← hw0]
 clear hw0
 repeat (refine wpE_q (v := ?_) rfl rfl (fun u hu => ?_) ?_; rotate_left 1; (focus ((have k0 := hu.cell' c0; have k1 := hu.cell' c1; have k2 := hu.cell' d0; have k3 := hu.cell' d1); go_simp; (try rfl))); simp only [PU])
 refine wpE_l rfl rfl (fun K hK => ?_)
 go_simp
 refine (r02_Neg_any neg' a' n' cap' z' _ (HW'.out.ext HE)).mono ?_
 rintro e w1 h1
 obtain ⟨a1, n1, cap1, rfl, hw1, hs1, he1⟩ := h1.whIn HN.out
 clear h1
 generalize decide (-z' < 0) = nb at *
 refine hK.out _ _ he1 ?_
 clear hK K hs1
 have hgl : w.heap.size + 1 + 1 < w0.heap.size := World.block_lt_of_cell? w0 _ z0
 replace z0 := he1.cell' z0
 replace qz0 := (he1.frozen (p := ⟨w.heap.size + 1 + 1, 0, none⟩) hgl).trans qz0
 replace z1 := he1.cell' z1
 replace qz1 := (he1.frozen (p := ⟨w.heap.size + 1 + 1, 1, none⟩) hgl).trans qz1
 clear hgl
 clear c0 c1 d0 d1
 replace HE := HE.trans he1
 clear he1
 try simp only [PU]
 refine wpE_l rfl rfl (fun K hK => ?_)
 go_simp
 refine (r02_Add_any neg nb a a1 n cap n1 cap1 z (-z') _ (HW.out.ext HE) hw1).mono ?_
 rintro e w2 ⟨a2, n2, cap2, rfl, hs2, he2⟩
 refine hK.out _ _ he2 ?_
 clear hK K
 have hgl : w.heap.size + 1 + 1 < w1.heap.size := World.block_lt_of_cell? w1 _ z0
 replace z0 := he2.cell' z0
 replace qz0 := (he2.frozen (p := ⟨w.heap.size + 1 + 1, 0, none⟩) hgl).trans qz0
 replace z1 := he2.cell' z1
 replace qz1 := (he2.frozen (p := ⟨w.heap.size + 1 + 1, 1, none⟩) hgl).trans qz1
 clear hgl
 replace HE := HE.trans he2
 clear he2 hw1
 try simp only [PU]
 refine wpE_b rfl rfl (fun K hK => ?_)
 go_simp
 refine hK.out _ _ ?_
 clear hK K
 try simp only [PU]
 refine wpE_done ?_
 go_wp2_with fail
 refine bodyPost_cells rfl rfl Tryz.underlying27 rfl (by kernel_rfl) (two (by go_simp; try rfl) (by go_simp; try rfl)) rfl ?_
 exact RetW.stored z0 z1 hs2 HE (by omega) rfl
set_option maxRecDepth 100000 in
set_option maxHeartbeats 1000000 in
theorem r02_Cmp_any (neg neg' : Bool) (a a' : Option Addr) (n cap n' cap' : Nat) (z z' : Int) (w : World) (hw : WhIn w neg a n cap z) (hw' : WhIn w neg' a' n' cap' z') (hb : (dig B32 (z - z').natAbs).length ≤ 549755813888) :
    Calls Tryz.prog 93 #[.agg #[.bool neg, .slice a n cap], .agg #[.bool neg', .slice a' n' cap']] w fun e w' => e = .returned (.int .i64 (sgn (z - z'))) ∧ Ext w w' := by
  have HB := hidP hb
  clear hb
  go_enter Tryz.func93, Tryz.ntmps93
  go_wp2_with fail
  refine (r02_Sub_any neg neg' a a' n cap n' cap' z z' _ (hw.ext (((Ext.refl _).alloc _).alloc _)) (hw'.ext (((Ext.refl _).alloc _).alloc _))).mono ?_
  rintro e w1 h1
  obtain ⟨a1, n1, cap1, rfl, hw1, hs1, he1⟩ := h1.whIn HB.out
  have HE : Ext w w1 := (((Ext.refl _).alloc _).alloc _).trans he1
  clear h1 hs1 he1
  generalize decide (z - z' < 0) = nb at *
  go_wp2_with fail
  refine (r02_Sign_any _ a1 n1 cap1 _ _ hw1).mono ?_
  rintro e w2 ⟨rfl, he2⟩
  go_wp2_with fail
  go_ret
  exact ⟨rfl, HE.trans he2⟩
end Go.Proofs.YtgjjalnmigdjgaaGreat
namespace Go.Proofs.YtgjjalnmigdjgaaGreat
set_option linter.unusedVariables false
open Go Go.RowKit
end Go.Proofs.YtgjjalnmigdjgaaGreat
namespace Go.Proofs.YtgjjalnmigdjgaaGreat
set_option linter.unusedVariables false
open Go Go.RowKit
end Go.Proofs.YtgjjalnmigdjgaaGreat
namespace Go.Proofs.YtgjjalnmigdjgaaGreat
set_option linter.unusedVariables false
open Go Go.RowKit
theorem bodyPost_cells_tmp2 {P : Program} {fn : Func} {R : Ending → World → Prop} {a : Act} {w : World} {p q : Tmp} {ty : TypeId} {d : TypeDesc} {g : Nat} {cs : Array Value} {v : Value} (h : fn.results = #[.cell p ty, .tmp q])
    (hp : a.tmps.getD p undef = .pointer (some ⟨g, 0, none⟩)) (hu : P.underlying ty = some d) (hd : (match d with | .struct _ | .array _ _ => true | _ => false) = true) (hi : (P.info? ty).map (·.size) = some cs.size)
    (hg : ∀ j v, cs.toList[j]? = some v → w.cell? ⟨g, j, none⟩ = some v) (hq : a.tmps.getD q undef = v) (hdef : a.defers = []) (hR : R (.returned (.tuple #[.agg cs, v])) w) : bodyPost P fn R .ret a w := by
  refine bodyPost_ret (v := .tuple #[.agg cs, v]) ?_ hdef hR
  have hp' : a.tmps[p]?.getD undef = .pointer (some ⟨g, 0, none⟩) := by simpa using hp
  have hq' : a.tmps[q]?.getD undef = v := by simpa using hq
  simp [results, h, hp', hq', asAddr, run_loadVar_cells w g ty cs d hg hu hd hi]
def isNeg (l : List Nat) : Bool := decide (l.getD 0 0 = 45)
def behind (l : List Nat) : List Nat := if isNeg l then l.drop 1 else l
end Go.Proofs.YtgjjalnmigdjgaaGreat
namespace Go.Proofs.YtgjjalnmigdjgaaGreat
set_option linter.unusedVariables false
open Go Go.RowKit
def sliceLen : Value → Nat
  | .slice _ n _ => n
  | _ => 0
end Go.Proofs.YtgjjalnmigdjgaaGreat
namespace Go.Proofs.YtgjjalnmigdjgaaGreat
set_option linter.unusedVariables false
open Go Go.RowKit
end Go.Proofs.YtgjjalnmigdjgaaGreat
namespace Go.Proofs.YtgjjalnmigdjgaaGreat
set_option linter.unusedVariables false
open Go Go.RowKit
end Go.Proofs.YtgjjalnmigdjgaaGreat
namespace Go.Proofs.YtgjjalnmigdjgaaGreat
set_option linter.unusedVariables false
open Go Go.RowKit
set_option maxRecDepth 100000 in
set_option maxHeartbeats 1000000 in
theorem w_clean_any (neg : Bool) (a : Option Addr) (n cap m : Nat) (w : World) (hs : Sl w a n cap (ints .u32 (dig B32 m))) :
    Calls Tryz.prog 138 #[.bool neg, .slice a n cap] w (RetW w (wz neg m)) := by
  have hln := hs.int_len
  have hA : (wz neg m).natAbs = m := by unfold wz; split <;> omega
  have hp := @dig_len_pos m
  have hN : neg = true ∧ 0 < n ↔ wz neg m < 0 := by
    unfold wz
    cases neg
    · simp
    · simp; omega
  have HN := hidP hN; have HA := hidP hA; have HS := hidP hs
  clear hN hA hs hp hln
  cases neg with
  | false =>
    go_enter Tryz.func138, Tryz.ntmps138
    go_wp2_with fail
    refine bodyPost_cells rfl rfl Tryz.underlying27 rfl (by kernel_rfl) (two (by go_simp; try rfl) (by go_simp; try rfl)) rfl ?_
    exact ⟨a, n, cap, by rw [show decide (wz false m < 0) = false by have := HN.out; simp at this; simp; omega], by rw [HA.out]; exact HS.out.ext ((Ext.refl _).alloc _), (Ext.refl _).alloc _⟩
  | true =>
    by_cases h0 : 0 < n
    · have h0i : (0 : Int) < (n : Int) := by omega
      go_enter Tryz.func138, Tryz.ntmps138
      go_wp2_with fail
      refine bodyPost_cells rfl rfl Tryz.underlying27 rfl (by kernel_rfl) (two (by go_simp; try rfl) (by go_simp; try rfl)) rfl ?_
      exact ⟨a, n, cap, by rw [show decide (wz true m < 0) = true by have := HN.out; simp at this; simp; omega], by rw [HA.out]; exact HS.out.ext ((Ext.refl _).alloc _), (Ext.refl _).alloc _⟩
    · obtain rfl : n = 0 := by omega
      go_enter Tryz.func138, Tryz.ntmps138
      go_wp2_with fail
      refine bodyPost_cells rfl rfl Tryz.underlying27 rfl (by kernel_rfl) (two (by go_simp; try rfl) (by go_simp; try rfl)) rfl ?_
      exact ⟨a, 0, cap, by rw [show decide (wz true m < 0) = false by have := HN.out; simp at this; simp; omega], by rw [HA.out]; exact HS.out.ext ((Ext.refl _).alloc _), (Ext.refl _).alloc _⟩
set_option maxRecDepth 100000 in
set_option maxHeartbeats 1000000 in
theorem w_Make_any (neg : Bool) (a : Option Addr) (n cap : Nat) (l : List Nat) (w : World) (hs : Sl w a n cap (ints .u32 l)) (hl : Ws l) (hn : n ≤ 1099511627776) :
    Calls Tryz.prog 136 #[.bool neg, .slice a n cap] w (RetW w (wz neg (val B32 l))) := by
  go_enter Tryz.func136, Tryz.ntmps136
  go_wp2_with fail
  refine (nat_Trim_any a n cap l _ (hs.ext ((Ext.refl _).alloc _)) hl hn).mono ?_
  rintro e w1 ⟨a1, n1, cap1, rfl, hs1, he1⟩
  have z0 := he1.cell' (p := ⟨w.heap.size, 0, none⟩) (v := .bool false) (by go_simp; try rfl)
  have q0 : w1.frozen? ⟨w.heap.size, 0, none⟩ = false := (he1.frozen (p := ⟨w.heap.size, 0, none⟩) (by simp)).trans (by go_simp)
  have z1 := he1.cell' (p := ⟨w.heap.size, 1, none⟩) (v := .slice none 0 0) (by go_simp; try rfl)
  have q1 : w1.frozen? ⟨w.heap.size, 1, none⟩ = false := (he1.frozen (p := ⟨w.heap.size, 1, none⟩) (by simp)).trans (by go_simp)
  have HE : Ext w w1 := ((Ext.refl _).alloc _).trans he1
  clear he1
  go_wp2_with fail
  refine (w_clean_any neg a1 n1 cap1 _ _ hs1).mono ?_
  rintro e w3 ⟨a3, n3, cap3, rfl, hs3, he3⟩
  have hgl : w.heap.size < w1.heap.size := World.block_lt_of_cell? w1 _ z0
  replace z0 := he3.cell' z0
  replace q0 := (he3.frozen (p := ⟨w.heap.size, 0, none⟩) hgl).trans q0
  replace z1 := he3.cell' z1
  replace q1 := (he3.frozen (p := ⟨w.heap.size, 1, none⟩) hgl).trans q1
  clear hgl
  replace HE := HE.trans he3
  clear he3 hs1
  generalize hbb : decide (wz neg (val B32 l) < 0) = bb at *
  have HBB := hidP hbb; clear hbb
  go_wp2_with fail
  refine bodyPost_cells rfl rfl Tryz.underlying27 rfl (by kernel_rfl) (two (by go_simp; try rfl) (by go_simp; try rfl)) rfl ?_
  exact RetW.stored z0 z1 hs3 HE (Nat.le_refl _) HBB.out.symm
set_option maxRecDepth 100000 in
set_option maxHeartbeats 1000000 in
theorem w_Of_any (n : Int) (w : World) (h1 : -9223372036854775808 ≤ n) (h2 : n ≤ 9223372036854775807) :
    Calls Tryz.prog 108 #[.int .i64 n] w (RetW w n) := by
 by_cases h0 : 0 ≤ n
 · obtain ⟨m, hm⟩ : ∃ m : Nat, n = (m : Int) := ⟨n.toNat, by omega⟩
   subst hm
   have ez : wz false m = (m : Int) := rfl
   have EZ := hidP ez
   clear ez
   go_enter Tryz.func108, Tryz.ntmps108
   go_wp2_with fail
   refine (nat_Of_any m _ (by omega)).mono ?_
   rintro e w1 ⟨a1, n1, cap1, rfl, hs1, he1⟩
   have z0 := he1.cell' (p := ⟨w.heap.size, 0, none⟩) (v := .bool false) (by go_simp; try rfl)
   have q0 : w1.frozen? ⟨w.heap.size, 0, none⟩ = false := (he1.frozen (p := ⟨w.heap.size, 0, none⟩) (by simp)).trans (by go_simp)
   have z1 := he1.cell' (p := ⟨w.heap.size, 1, none⟩) (v := .slice none 0 0) (by go_simp; try rfl)
   have q1 : w1.frozen? ⟨w.heap.size, 1, none⟩ = false := (he1.frozen (p := ⟨w.heap.size, 1, none⟩) (by simp)).trans (by go_simp)
   have HE : Ext w w1 := ((Ext.refl _).alloc _).trans he1
   clear he1
   go_wp2_with fail
   refine (w_clean_any false a1 n1 cap1 _ _ hs1).mono ?_
   rw [EZ.out]
   rintro e w3 ⟨a3, n3, cap3, rfl, hs3, he3⟩
   have hgl : w.heap.size < w1.heap.size := World.block_lt_of_cell? w1 _ z0
   replace z0 := he3.cell' z0
   replace q0 := (he3.frozen (p := ⟨w.heap.size, 0, none⟩) hgl).trans q0
   replace z1 := he3.cell' z1
   replace q1 := (he3.frozen (p := ⟨w.heap.size, 1, none⟩) hgl).trans q1
   clear hgl
   replace HE := HE.trans he3
   clear he3 hs1
   generalize hbb : decide ((m : Int) < 0) = bb at *
   have HBB := hidP hbb; clear hbb
   go_wp2_with fail
   refine bodyPost_cells rfl rfl Tryz.underlying27 rfl (by kernel_rfl) (two (by go_simp; try rfl) (by go_simp; try rfl)) rfl ?_
   exact RetW.stored z0 z1 hs3 HE (Nat.le_refl _) HBB.out.symm
 obtain ⟨m, hm⟩ : ∃ m : Nat, n = -((m : Int) + 1) := ⟨(-1 - n).toNat, by omega⟩
 subst hm
 have hml : m ≤ 9223372036854775807 := by omega
 have ez : wz true (m + 1) = -((m : Int) + 1) := by unfold wz; simp
 have EZ := hidP ez
 clear ez
 have hlt : ¬ (0 : Int) ≤ -((m : Int) + 1) := h0
 obtain ⟨zn, hzn⟩ : ∃ zn : Int, zn = -((m : Int) + 1) := ⟨_, rfl⟩
 rw [← hzn] at EZ h0 h1 h2 ⊢
 have hz1 : zn < 0 := by omega
 have hw : wrap64 (-wrap64 (zn + 1)) = (m : Int) := by unfold wrap64; omega
 have HW := hidP hw
 clear hlt hw hzn h0 h1
 go_enter Tryz.func108, Tryz.ntmps108
 go_upto_region 3 with fail
 iterate 9 go_step
 rw [HW.out]
 generalize wrap64 (zn + 1) = q1
 go_wp2_with fail
 refine (nat_Of_any (m + 1) _ (by omega)).mono ?_
 rintro e w1 ⟨a1, n1, cap1, rfl, hs1, he1⟩
 have z0 := he1.cell' (p := ⟨w.heap.size, 0, none⟩) (v := .bool false) (by go_simp; try rfl)
 have q0 : w1.frozen? ⟨w.heap.size, 0, none⟩ = false := (he1.frozen (p := ⟨w.heap.size, 0, none⟩) (by simp)).trans (by go_simp)
 have z1 := he1.cell' (p := ⟨w.heap.size, 1, none⟩) (v := .slice none 0 0) (by go_simp; try rfl)
 have q1 : w1.frozen? ⟨w.heap.size, 1, none⟩ = false := (he1.frozen (p := ⟨w.heap.size, 1, none⟩) (by simp)).trans (by go_simp)
 have HE : Ext w w1 := ((Ext.refl _).alloc _).trans he1
 clear he1
 go_wp2_with fail
 refine (w_clean_any true a1 n1 cap1 _ _ hs1).mono ?_
 rw [EZ.out]
 rintro e w3 ⟨a3, n3, cap3, rfl, hs3, he3⟩
 have hgl : w.heap.size < w1.heap.size := World.block_lt_of_cell? w1 _ z0
 replace z0 := he3.cell' z0
 replace q0 := (he3.frozen (p := ⟨w.heap.size, 0, none⟩) hgl).trans q0
 replace z1 := he3.cell' z1
 replace q1 := (he3.frozen (p := ⟨w.heap.size, 1, none⟩) hgl).trans q1
 clear hgl
 replace HE := HE.trans he3
 clear he3 hs1
 generalize hbb : decide (zn < 0) = bb at *
 have HBB := hidP hbb; clear hbb
 go_wp2_with fail
 refine bodyPost_cells rfl rfl Tryz.underlying27 rfl (by kernel_rfl) (two (by go_simp; try rfl) (by go_simp; try rfl)) rfl ?_
 exact RetW.stored z0 z1 hs3 HE (Nat.le_refl _) HBB.out.symm
end Go.Proofs.YtgjjalnmigdjgaaGreat
namespace Go.Proofs.YtgjjalnmigdjgaaGreat
set_option linter.unusedVariables false
open Go Go.RowKit
/-- What Uint answers. -/
def uintR (V : Nat) : Value := if V ≤ 18446744073709551615 then .tuple #[.int .u64 (V : Int), .bool true] else .tuple #[.int .u64 0, .bool false]
theorem or_zero64 (x : Nat) (h : x ≤ 4294967295) : bits .or .u64 0 (x : Int) = (x : Int) := by
  have h1 := or32 0 x (by omega) h
  simpa using h1
set_option maxRecDepth 100000 in
set_option maxHeartbeats 1000000 in
theorem nat_Uint_any (a : Option Addr) (n cap : Nat) (x : List Nat) (w : World) (hs : Sl w a n cap (ints .u32 x)) (hx : Ws x) (hn : n ≤ 1099511627776) :
    Calls Tryz.prog 216 #[.slice a n cap] w fun e w' => e = .returned (uintR (val B32 x)) ∧ w = w' := by
 have hlx := hs.int_len
 have hdl := dig_val_len B32_two x hx
 obtain ⟨m, hm⟩ : ∃ m, m = (dig B32 (val B32 x)).length := ⟨_, rfl⟩
 have hmn : m ≤ n := by omega
 have HM := hidP hm
 by_cases h3 : 3 ≤ m
 · have HR : Hid (uintR (val B32 x) = .tuple #[.int .u64 0, .bool false]) := hidP (if_neg (fun h => by
    have h4 : (dig B32 (val B32 x)).length ≤ 2 := dig_len_le B32_two (by unfold B32 at *; omega)
    omega))
   have hm2 : ((m : Int) == 2) = false := by simp; omega
   have hm1 : ((m : Int) == 1) = false := by simp; omega
   have hm0 : ((m : Int) == 0) = false := by simp; omega
   clear hm hdl
   go_enter Tryz.func216, Tryz.ntmps216
   go_wp2_with fail
   refine (nat_size_any a n cap x _ hs hx (by omega)).mono ?_
   rw [← HM.out]
   rintro e w' ⟨rfl, rfl⟩
   go_wp2_with fail
   go_ret2
   exact ⟨by rw [HR.out]; rfl, rfl⟩
 have hV : (dig B32 (val B32 x)).length = m := hm.symm
 rcases (by omega : m = 0 ∨ m = 1 ∨ m = 2) with rfl | rfl | rfl
 · have HR : Hid (uintR (val B32 x) = .tuple #[.int .u64 0, .bool true]) := hidP (by
    have h5 := val_dig B32_two (val B32 x)
    rw [List.eq_nil_of_length_eq_zero hV] at h5
    rw [← h5]; rfl)
   clear hm hdl hV
   go_enter Tryz.func216, Tryz.ntmps216
   go_wp2_with fail
   refine (nat_size_any a n cap x _ hs hx (by omega)).mono ?_
   rw [← HM.out]
   rintro e w' ⟨rfl, rfl⟩
   go_wp2_with fail
   go_ret2
   exact ⟨by rw [HR.out]; rfl, rfl⟩
 · obtain ⟨h0, hg0⟩ := dig_get hx 0 (by omega)
   obtain ⟨b, off, rfl, hc⟩ := hs.at_int (by omega)
   have hc0 : w.cell? ⟨b, off, none⟩ = some (.int .u32 ((x[0] : Nat) : Int)) := by have := hc 0 h0; simpa using this
   have hb0 := hx.at 0 h0
   have HR : Hid (uintR (val B32 x) = .tuple #[.int .u64 ((x[0] : Nat) : Int), .bool true]) := hidP (by
    have h5 := val_dig B32_two (val B32 x)
    generalize hD : dig B32 (val B32 x) = D at *
    match D, hV with
    | [d0], _ =>
     simp at hg0
     simp [val] at h5
     rw [← h5, hg0]
     exact if_pos (by omega))
   have hor := or_zero64 x[0] (by omega)
   clear hc hm hdl hV hg0
   generalize x[0] = d0 at *
   go_enter Tryz.func216, Tryz.ntmps216
   go_wp2_with fail
   refine (nat_size_any _ n cap x _ hs hx (by omega)).mono ?_
   rw [← HM.out]
   rintro e w' ⟨rfl, rfl⟩
   go_wp2_with fail
   go_ret2
   exact ⟨by rw [HR.out]; rfl, rfl⟩
 obtain ⟨h0, hg0⟩ := dig_get hx 0 (by omega)
 obtain ⟨h1, hg1⟩ := dig_get hx 1 (by omega)
 obtain ⟨b, off, rfl, hc⟩ := hs.at_int (by omega)
 have hc0 : w.cell? ⟨b, off, none⟩ = some (.int .u32 ((x[0] : Nat) : Int)) := by have := hc 0 h0; simpa using this
 have hc1 := hc 1 h1
 have hb0 := hx.at 0 h0
 have hb1 := hx.at 1 h1
 have HR : Hid (uintR (val B32 x) = .tuple #[.int .u64 ((x[1] * 4294967296 + x[0] : Nat) : Int), .bool true]) := hidP (by
  have h5 := val_dig B32_two (val B32 x)
  generalize hD : dig B32 (val B32 x) = D at *
  match D, hV with
  | [d0, d1], _ =>
   simp at hg0 hg1
   simp [val] at h5
   have h6 : val B32 x = x[1] * 4294967296 + x[0] := by rw [← h5, hg0, hg1]; unfold B32; omega
   rw [h6]
   exact if_pos (by omega))
 have hor := or32 x[1] x[0] (by omega) (by omega)
 clear hc hm hdl hV hg0 hg1
 generalize x[0] = d0 at *
 generalize x[1] = d1 at *
 go_enter Tryz.func216, Tryz.ntmps216
 go_wp2_with fail
 refine (nat_size_any _ n cap x _ hs hx (by omega)).mono ?_
 rw [← HM.out]
 rintro e w' ⟨rfl, rfl⟩
 go_wp2_with fail
 go_ret2
 exact ⟨by rw [HR.out]; rfl, rfl⟩
end Go.Proofs.YtgjjalnmigdjgaaGreat
namespace Go.Proofs.YtgjjalnmigdjgaaGreat
set_option linter.unusedVariables false
open Go Go.RowKit
/-- How many words a number has. -/
def dl (V : Nat) : Nat := (dig B32 V).length
theorem dl_mono {a b : Nat} (h : a ≤ b) : dl a ≤ dl b := dig_mono B32_two h
theorem dl_lt (a : Nat) : a < B32 ^ dl a := le_of_dig_len B32_two (Nat.le_refl _)
theorem dl_le {a N : Nat} (h : a < B32 ^ N) : dl a ≤ N := dig_len_le B32_two h
theorem dl_add {a b N : Nat} (ha : dl a ≤ N) (hb : dl b ≤ N) : dl (a + b) ≤ N + 1 := by
  refine dl_le ?_
  have h1 := Nat.lt_of_lt_of_le (dl_lt a) (Nat.pow_le_pow_right (by decide : B32 > 0) ha)
  have h2 := Nat.lt_of_lt_of_le (dl_lt b) (Nat.pow_le_pow_right (by decide : B32 > 0) hb)
  have h3 : 2 * B32 ^ N ≤ B32 ^ (N + 1) := by rw [Nat.pow_succ, Nat.mul_comm]; exact Nat.mul_le_mul_left _ (by decide)
  omega
theorem dl_mul (a b : Nat) : dl (a * b) ≤ dl a + dl b := by
  refine dl_le ?_
  rw [Nat.pow_add]
  rcases Nat.eq_zero_or_pos b with h | h
  · subst h; exact Nat.mul_pos (Nat.pow_pos (by decide)) (Nat.pow_pos (by decide))
  · exact Nat.lt_of_lt_of_le (Nat.mul_lt_mul_of_pos_right (dl_lt a) h) (Nat.mul_le_mul_left _ (Nat.le_of_lt (dl_lt b)))
theorem dl_div (a b : Nat) : dl (a / b) ≤ dl a := dl_mono (Nat.div_le_self a b)
theorem dl_mod (a b : Nat) : dl (a % b) ≤ dl a := dl_mono (Nat.mod_le a b)
theorem dl_small {a : Nat} (h : a ≤ 4294967295) : dl a ≤ 1 := dl_le (by unfold B32; omega)
theorem dl_u64 {a : Nat} (h : a ≤ 18446744073709551615) : dl a ≤ 2 := dl_le (by unfold B32; omega)
theorem dig_inj {a b : Nat} : dig B32 a = dig B32 b ↔ a = b := ⟨fun h => by rw [← val_dig B32_two a, h, val_dig B32_two], fun h => by rw [h]⟩
theorem dl_zero : dl 0 = 0 := by unfold dl; rw [dig_zero]; rfl
theorem dl_eq_zero {a : Nat} : dl a = 0 ↔ a = 0 := by
  constructor
  · intro h
    have := dl_lt a
    rw [h, Nat.pow_zero] at this
    omega
  · intro h; rw [h]; exact dl_zero
/-- A slice stands for a number. -/
def Nu (w : World) (a : Option Addr) (n cap V : Nat) : Prop := (∃ l, Sl w a n cap (ints .u32 l) ∧ Ws l ∧ val B32 l = V) ∧ n ≤ 1099511627776
/-- It has that number's own words. -/
def Nc (w : World) (a : Option Addr) (n cap V : Nat) : Prop := Sl w a n cap (ints .u32 (dig B32 V))
theorem Nu.ext {w u : World} {a : Option Addr} {n cap V : Nat} (h : Nu w a n cap V) (he : Ext w u) : Nu u a n cap V := let ⟨⟨l, hs, hl, hv⟩, hn⟩ := h; ⟨⟨l, hs.ext he, hl, hv⟩, hn⟩
theorem Nc.ext {w u : World} {a : Option Addr} {n cap V : Nat} (h : Nc w a n cap V) (he : Ext w u) : Nc u a n cap V := Sl.ext h he
theorem Nc.len {w : World} {a : Option Addr} {n cap V : Nat} (h : Nc w a n cap V) : n = dl V := (Sl.int_len h).symm
theorem Nc.nu {w : World} {a : Option Addr} {n cap V : Nat} (h : Nc w a n cap V) (hd : dl V ≤ 1099511627776) : Nu w a n cap V := ⟨⟨_, h, Ws.dig _, val_dig B32_two _⟩, by rw [h.len]; exact hd⟩
theorem Nu.dl {w : World} {a : Option Addr} {n cap V : Nat} (h : Nu w a n cap V) : dl V ≤ n := by
  obtain ⟨⟨l, hs, hl, rfl⟩, hn⟩ := h
  have := dig_val_len B32_two l hl
  rw [hs.int_len] at this
  exact this
theorem Nc.zero (w : World) : Nc w none 0 0 0 := by unfold Nc; rw [dig_zero]; exact Sl.nil _
theorem Nc.lit1 (w : World) (d : Nat) (h : 1 ≤ d) (h2 : d ≤ 4294967295) (e : TypeId) : Nc (w.alloc (.cells #[.int .u32 (d : Int)] e)) (some ⟨w.heap.size, 0, none⟩) 1 1 d := by
  unfold Nc
  rw [dig_one (by omega) h2]
  exact Sl.lit w e #[.int .u32 (d : Int)] 1 rfl (by omega)
/-- The call hands back that number's own words. -/
def RetN (w : World) (V : Nat) (e : Ending) (w' : World) : Prop := ∃ a n cap, e = .returned (.slice a n cap) ∧ Nc w' a n cap V ∧ Ext w w'
/-- A quotient and a rest. -/
def RetQR (w : World) (x y : Nat) (e : Ending) (w' : World) : Prop :=
  ∃ a n cap a' n' cap', e = .returned (.tuple #[.slice a n cap, .slice a' n' cap', .bool (decide (y ≠ 0))]) ∧ Nc w' a n cap (if y = 0 then 0 else x / y) ∧ Nc w' a' n' cap' (if y = 0 then 0 else x % y) ∧ Ext w w'
theorem RetQR.of {w : World} {x y : Nat} {e : Ending} {w' : World} (h : RetDiv w x y e w') : RetQR w x y e w' := by
  obtain ⟨a, n, cap, a', n', cap', he, h1, h2, h3⟩ := h
  refine ⟨a, n, cap, a', n', cap', he, ?_, ?_, h3⟩
  · unfold Nc
    split at h1
    · next h0 => rw [if_pos h0, dig_zero]; exact h1
    · next h0 => rw [if_neg h0]; exact h1
  · unfold Nc
    split at h2
    · next h0 => rw [if_pos h0, dig_zero]; exact h2
    · next h0 => rw [if_neg h0]; exact h2
section
variable {a a' : Option Addr} {n cap n' cap' V V' : Nat} {w : World}
theorem n_Trim (h : Nu w a n cap V) : Calls Tryz.prog 135 #[.slice a n cap] w (RetN w V) := by
  obtain ⟨⟨l, hs, hl, rfl⟩, hn⟩ := h; exact nat_Trim_any a n cap l w hs hl hn
theorem n_Bits (h : Nu w a n cap V) : Calls Tryz.prog 127 #[.slice a n cap] w fun e w' => e = .returned (.int .i64 (bitlen V : Nat)) ∧ w = w' := by
  obtain ⟨⟨l, hs, hl, rfl⟩, hn⟩ := h; exact nat_Bits_any a n cap l w hs hl hn
theorem n_Uint (h : Nu w a n cap V) : Calls Tryz.prog 216 #[.slice a n cap] w fun e w' => e = .returned (uintR V) ∧ w = w' := by
  obtain ⟨⟨l, hs, hl, rfl⟩, hn⟩ := h; exact nat_Uint_any a n cap l w hs hl hn
theorem n_Cmp (h : Nu w a n cap V) (h' : Nu w a' n' cap' V') : Calls Tryz.prog 137 #[.slice a n cap, .slice a' n' cap'] w fun e w' => e = .returned (.int .i64 (cmpI V V')) ∧ Ext w w' := by
  obtain ⟨⟨l, hs, hl, rfl⟩, hn⟩ := h; obtain ⟨⟨l', hs', hl', rfl⟩, hn'⟩ := h'; exact nat_Cmp_any a a' n cap n' cap' l l' w hs hs' hl hl' hn hn'
theorem n_Mul (h : Nu w a n cap V) (h' : Nu w a' n' cap' V') : Calls Tryz.prog 139 #[.slice a n cap, .slice a' n' cap'] w (RetN w (V * V')) := by
  obtain ⟨⟨l, hs, hl, rfl⟩, hn⟩ := h; obtain ⟨⟨l', hs', hl', rfl⟩, hn'⟩ := h'; exact nat_Mul_any a a' n cap n' cap' l l' w hs hs' hl hl' hn hn'
theorem n_Div (h : Nu w a n cap V) (h' : Nu w a' n' cap' V') : Calls Tryz.prog 199 #[.slice a n cap, .slice a' n' cap'] w (RetQR w V V') := by
  obtain ⟨⟨l, hs, hl, rfl⟩, hn⟩ := h; obtain ⟨⟨l', hs', hl', rfl⟩, hn'⟩ := h'
  exact (nat_Div_any a a' n cap n' cap' l l' w hs hs' hl hl' hn hn').mono fun _ _ => RetQR.of
theorem n_Shift_up (h : Nu w a n cap V) (m : Nat) (hm : m ≤ 4096) : Calls Tryz.prog 131 #[.slice a n cap, .int .i64 (m : Int)] w (RetN w (V * 2 ^ m)) := by
  obtain ⟨⟨l, hs, hl, rfl⟩, hn⟩ := h
  have := nat_Shift_any a n cap l (m : Int) w hs hl (by omega) (by omega)
  rw [shl32_up hm] at this
  exact this
theorem n_Of (v : Nat) (w : World) (hv : v ≤ 18446744073709551615) : Calls Tryz.prog 152 #[.int .u64 v] w (RetN w v) := nat_Of_any v w hv
theorem d_Bits (h : Nu w a n cap V) : Calls Tryz.prog 140 #[.slice a n cap] w fun e w' => e = .returned (.int .i64 (bitlen V : Nat)) ∧ Ext w w' := by
  obtain ⟨⟨l, hs, hl, rfl⟩, hn⟩ := h; exact r01_Bits_any a n cap l w hs hl hn
theorem d_Add (h : Nu w a n cap V) (h' : Nu w a' n' cap' V') : Calls Tryz.prog 106 #[.slice a n cap, .slice a' n' cap'] w (RetN w (V + V')) := by
  obtain ⟨⟨l, hs, hl, rfl⟩, hn⟩ := h; obtain ⟨⟨l', hs', hl', rfl⟩, hn'⟩ := h'; exact r01_Add_any a a' n cap n' cap' l l' w hs hs' hl hl' hn hn'
theorem d_Mul (h : Nu w a n cap V) (h' : Nu w a' n' cap' V') : Calls Tryz.prog 103 #[.slice a n cap, .slice a' n' cap'] w (RetN w (V * V')) := by
  obtain ⟨⟨l, hs, hl, rfl⟩, hn⟩ := h; obtain ⟨⟨l', hs', hl', rfl⟩, hn'⟩ := h'; exact r01_Mul_any a a' n cap n' cap' l l' w hs hs' hl hl' hn hn'
theorem d_Div (h : Nu w a n cap V) (h' : Nu w a' n' cap' V') : Calls Tryz.prog 177 #[.slice a n cap, .slice a' n' cap'] w (RetQR w V V') := by
  obtain ⟨⟨l, hs, hl, rfl⟩, hn⟩ := h; obtain ⟨⟨l', hs', hl', rfl⟩, hn'⟩ := h'
  exact (r01_Div_any a a' n cap n' cap' l l' w hs hs' hl hl' hn hn').mono fun _ _ => RetQR.of
theorem d_Power (m : Nat) (w : World) (hm : m ≤ 35184372088832) : Calls Tryz.prog 207 #[.int .i64 m] w (RetN w (2 ^ m)) := r01_Power_any m w hm
/-- Digits of 16 bits. -/
theorem d_Half (h : Nu w a n cap V) : Calls Tryz.prog 148 #[.slice a n cap] w fun e w' => ∃ a n cap, e = .returned (.slice a n cap) ∧ Sl w' a n cap (ints .u64 (dig B16 V)) ∧ n ≤ 2199023255552 ∧ Ext w w' := by
  obtain ⟨⟨l, hs, hl, rfl⟩, hn⟩ := h
  refine (r01_half_any a n cap l w hs hl hn).mono ?_
  rintro e w' ⟨a2, n2, c2, rfl, h2, h3⟩
  refine ⟨a2, n2, c2, rfl, h2, ?_, h3⟩
  have h4 : (dig B16 (val B32 l)).length ≤ 2 * l.length := dig16_len_le l (fun d hd => hl d hd)
  have h5 := h2.int_len
  have h6 := hs.int_len
  omega
theorem d_Words (h : Sl w a n cap (ints .u64 (dig B16 V))) (hn : n ≤ 2199023255552) : Calls Tryz.prog 149 #[.slice a n cap] w (RetN w V) := by
  have := r01_words_any a n cap (dig B16 V) w h (Hs.dig _) (by omega)
  rw [val_dig B16_two] at this
  exact this
end
end Go.Proofs.YtgjjalnmigdjgaaGreat
