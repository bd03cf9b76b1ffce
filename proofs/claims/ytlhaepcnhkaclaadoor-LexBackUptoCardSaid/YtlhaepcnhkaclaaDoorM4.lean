/- Joined: C1 D1 D3 F0 T1 E1 E2 E3 E4 E5 E6 F1 F2 F3 W1 W2 K10. -/
import Derived.Test.YtlhaepcnhkaclaaDoorProg
import Derived.Outline
import Derived.Test.YtlhaepcnhkaclaaDoorM1
import Derived.Laws.Rows
import Derived.Deep.DeepCutAuto
import Derived.Lib.BitFns
import Derived.Laws.RangeAny
import Derived.Lib.Strings
import Derived.Test.YtlhaepcnhkaclaaDoorM2
import Derived.Test.YtlhaepcnhkaclaaDoorM3
namespace Go.Proofs.YtlhaepcnhkaclaaDoor
set_option linter.unusedVariables false
open Go Go.RowKit

theorem run_loadVar_cells {P : Program} (w : World) (g : Nat) (ty : TypeId) (cs : Array Value) (d : TypeDesc) (hg : ∀ j v, cs.toList[j]? = some v → w.cell? ⟨g, j, none⟩ = some v)
    (hu : P.underlying ty = some d) (hd : (match d with | .struct _ | .array _ _ => true | _ => false) = true) (hi : (P.info? ty).map (·.size) = some cs.size) :
    (loadVar ty ⟨g, 0, none⟩).run P w = .ok (.agg cs) w := by
  have hl : (loadCells ⟨g, 0, none⟩ cs.toList.length).run P w = .ok cs.toList.toArray w :=
    run_loadCells_list (P := P) w ⟨g, 0, none⟩ cs.toList (fun j v hv => by
      have hadd : (⟨g, 0, none⟩ : Addr).add j = ⟨g, j, none⟩ := by unfold Addr.add; split <;> simp_all
      rw [hadd, hg j v hv])
  cases hq : P.info? ty with
  | none => simp [hq] at hi
  | some i =>
    have hs : i.size = cs.size := by simpa [hq] using hi
    have hagg : (isAgg ty).run P w = .ok true w := by
      unfold isAgg
      rw [Sem.run_bind, run_underlying hu w]
      cases d <;> simp_all
    simp only [Array.length_toList, Array.toArray_toList] at hl
    simp [loadVar, Sem.run_bind, hagg, sizeOf, typeInfo, hq, hs, hl]

theorem bodyPost_cells {P : Program} {fn : Func} {R : Ending → World → Prop} {a : Act} {w : World} {p : Tmp} {ty : TypeId} {d : TypeDesc} {g : Nat} {cs : Array Value} (h : fn.results = #[.cell p ty])
    (hp : a.tmps.getD p undef = .pointer (some ⟨g, 0, none⟩)) (hu : P.underlying ty = some d) (hd : (match d with | .struct _ | .array _ _ => true | _ => false) = true) (hi : (P.info? ty).map (·.size) = some cs.size)
    (hg : ∀ j v, cs.toList[j]? = some v → w.cell? ⟨g, j, none⟩ = some v) (hdef : a.defers = []) (hR : R (.returned (.agg cs)) w) : bodyPost P fn R .ret a w := by
  refine bodyPost_ret (v := .agg cs) ?_ hdef hR
  have hp' : a.tmps[p]?.getD undef = .pointer (some ⟨g, 0, none⟩) := by simpa using hp
  simp [results, h, hp', asAddr, run_loadVar_cells w g ty cs d hg hu hd hi]

/-- Four cells, one after the other. -/
theorem four {w : World} {g : Nat} {v0 v1 v2 v3 : Value} (h0 : w.cell? ⟨g, 0, none⟩ = some v0) (h1 : w.cell? ⟨g, 1, none⟩ = some v1) (h2 : w.cell? ⟨g, 2, none⟩ = some v2) (h3 : w.cell? ⟨g, 3, none⟩ = some v3) :
    ∀ j v, (#[v0, v1, v2, v3] : Array Value).toList[j]? = some v → w.cell? ⟨g, j, none⟩ = some v := by
  intro j v hv
  match j, hv with
  | 0, hv => simp at hv; rw [h0, hv]
  | 1, hv => simp at hv; rw [h1, hv]
  | 2, hv => simp at hv; rw [h2, hv]
  | 3, hv => simp at hv; rw [h3, hv]
  | n + 4, hv => simp at hv

/-- A colour. -/
def col (r g b a : Nat) : Value := .agg #[.int .u8 (r : Int), .int .u8 (g : Int), .int .u8 (b : Int), .int .u8 (a : Int)]

end Go.Proofs.YtlhaepcnhkaclaaDoor

namespace Go.Proofs.YtlhaepcnhkaclaaDoor
set_option linter.unusedVariables false
open Go Go.RowKit

theorem T_u8 : SlT Tryd.prog 22 5 (.int .u8 0) 1 :=
  let ⟨i, h1, h2, h3, h4⟩ := info_parts (P := Tryd.prog) (e := 5) (z := .int .u8 0) (size := 1) (bytes := 1) (by kernel_rfl); ⟨Tryd.underlying22, i, h1, h2, h3, h4, rfl⟩

/-- 'string(b)'. -/
theorem str_of {w : World} {a : Option Addr} {n cap : Nat} {l : List Nat} (hs : Sl w a n cap (ints .u8 l)) (hl : ∀ x ∈ l, x ≤ 255) :
    (convert 22 9 (.slice a n cap)).run Tryd.prog w = .ok (.string (bytesOf l)) w := by
  have hlen := hs.int_len
  by_cases h0 : 0 < n
  · obtain ⟨b, off, rfl, hc⟩ := hs.at_int h0
    have := run_convert_bytes_back (P := Tryd.prog) w 22 9 5 ⟨b, off, none⟩ cap (l.map UInt8.ofNat) Tryd.underlying22 Tryd.underlying5 Tryd.underlying9 (fun j hj => by
      have hj' : j < l.length := by simpa using hj
      have hle := hl l[j] (List.getElem_mem hj')
      have e1 : ((((l.map UInt8.ofNat)[j]'hj).toNat : Nat) : Int) = (l[j] : Nat) := by simp; omega
      rw [e1, ← hc j hj']
      unfold Addr.add
      by_cases hz : j = 0
      · subst hz; simp
      · simp [hz])
    rw [List.length_map, hlen] at this
    exact this
  · obtain rfl : n = 0 := by omega
    obtain rfl : l = [] := List.eq_nil_of_length_eq_zero hlen
    cases a with
    | none => exact run_convert_bytes_nil w 22 5 Tryd.underlying22 Tryd.underlying5 0 cap 9 Tryd.underlying9
    | some a =>
      exact run_convert_bytes_back (P := Tryd.prog) w 22 9 5 a cap [] Tryd.underlying22 Tryd.underlying5 Tryd.underlying9 (fun j hj => by simp at hj)

theorem or_fig (x y : Nat) (hx : x ≤ 15) (hy : y ≤ 15) : bits .or .u8 ((x : Int) * 16) (y : Int) = 16 * (x : Int) + (y : Int) := by
  have h1 := u8_or_nat (x * 16) y (by omega) (by omega)
  have h2 : x * 16 ||| y = x * 16 + y := by
    have := Nat.shiftLeft_add_eq_or_of_lt (i := 4) (b := y) (by omega) x
    rw [Nat.shiftLeft_eq] at this
    exact this.symm
  rw [h2] at h1
  have e : (((x * 16 : Nat) : Nat) : Int) = (x : Int) * 16 := by omega
  rw [e] at h1
  rw [h1]
  omega
/-- The value of a figure, and whether it is one. -/
def valueR (c : Nat) : Value := .tuple #[.int .u8 (((digv c).getD 0 : Nat) : Int), .bool (digv c).isSome]

end Go.Proofs.YtlhaepcnhkaclaaDoor

namespace Go.Proofs.YtlhaepcnhkaclaaDoor
set_option linter.unusedVariables false
open Go Go.RowKit

/-- Digits, as a number without a sign has them. -/
def PlainL (l : List Nat) : Prop := l ≠ [] ∧ (l.getD 0 0 = 48 → l.length ≤ 1) ∧ ∀ c ∈ l, 48 ≤ c ∧ c ≤ 57
instance (l : List Nat) : Decidable (PlainL l) := by unfold PlainL; infer_instance

theorem size_zero {s : ByteArray} (h : s.size = 0) : s = ⟨#[]⟩ := by
  obtain ⟨⟨l⟩⟩ := s
  have : l.length = 0 := h
  rw [List.eq_nil_of_length_eq_zero this]
theorem toList_data (s : ByteArray) : s.toList = s.data.toList := ByteArray.toList_eq s

/-- The number of digits. -/
def dval (l : List Nat) : Nat := l.foldl (fun a c => 10 * a + (c - 48)) 0
theorem dval_snoc (l : List Nat) (c : Nat) : dval (l ++ [c]) = 10 * dval l + (c - 48) := by simp [dval]
theorem dval_ge (l : List Nat) : ∀ a, a ≤ l.foldl (fun a c => 10 * a + (c - 48)) a := by
  induction l with
  | nil => intro a; exact Nat.le_refl _
  | cons c r ih => intro a; exact Nat.le_trans (by omega) (ih (10 * a + (c - 48)))
theorem dval_take (l : List Nat) (k : Nat) : dval (l.take k) ≤ dval l := by
  have h : l = l.take k ++ l.drop k := (List.take_append_drop k l).symm
  unfold dval
  conv => rhs; rw [h, List.foldl_append]
  exact dval_ge _ _
theorem dval_next {l : List Nat} {k c : Nat} (hk : k < l.length) (hc : l.getD k 0 = c) : dval (l.take (k + 1)) = 10 * dval (l.take k) + (c - 48) := by
  rw [List.take_succ_eq_append_getElem hk, dval_snoc]
  rw [List.getD_eq_getElem?_getD, List.getElem?_eq_getElem hk] at hc
  simp only [Option.getD_some] at hc
  rw [hc]

/-- What down answers. -/
def downR (v : Nat) : Value := if v ≤ 9223372036854775808 then .tuple #[.int .i64 (-(v : Int)), .bool true] else .tuple #[.int .i64 0, .bool false]

/-- What Read answers. -/
def readL (l : List Nat) (lo hi : Int) : Int × Nat :=
  let neg := l.getD 0 0 = 45
  let ds := if neg then l.drop 1 else l
  if ¬ PlainL ds ∨ (neg ∧ ds = [48]) then (0, 3)
  else
    let n : Int := if neg then -(dval ds : Int) else dval ds
    if (if neg then dval ds ≤ 9223372036854775808 else dval ds < 9223372036854775808) ∧ lo ≤ n ∧ n ≤ hi then (n, 0) else (0, 4)

theorem natsOf_drop1 (s : ByteArray) : natsOf (s.extract 1 s.size) = (natsOf s).drop 1 := by
  unfold natsOf
  rw [Lib.extract_data]
  have : (s.data.toList.drop 1).length = s.size - 1 := by simp
  rw [List.take_of_length_le (by omega), List.map_drop]
theorem eq_str {s : ByteArray} {l : List UInt8} : (s.toList == l) = decide (natsOf s = l.map UInt8.toNat) := by
  rw [toList_data]
  unfold natsOf
  by_cases h : s.data.toList = l
  · rw [h]; simp
  · have : ¬ s.data.toList.map UInt8.toNat = l.map UInt8.toNat := fun hh => h (List.map_inj_right (fun a b hab => UInt8.toNat_inj.1 hab) |>.1 hh)
    rw [decide_eq_false this]
    simpa using h

end Go.Proofs.YtlhaepcnhkaclaaDoor

namespace Go.Proofs.YtlhaepcnhkaclaaDoor
set_option linter.unusedVariables false
open Go Go.RowKit

/-- What is left of a number that is told in chunks of nine digits. -/
theorem chunk_step {part V2 k : Nat} (hk : k < 9) (h : 0 < part ∨ 0 < V2) :
    dig 10 (part + 10 ^ (9 - k) * V2) = part % 10 :: dig 10 (part / 10 + 10 ^ (9 - (k + 1)) * V2) := by
  have e : 10 ^ (9 - k) * V2 = 10 * (10 ^ (9 - (k + 1)) * V2) := by
    rw [show 9 - k = (9 - (k + 1)) + 1 by omega, Nat.pow_succ, Nat.mul_comm (10 ^ (9 - (k + 1))) 10, Nat.mul_assoc]
  have hp : 0 < V2 → 0 < 10 ^ (9 - (k + 1)) * V2 := fun h => Nat.mul_pos (Nat.pow_pos (by decide)) h
  rw [e]
  generalize 10 ^ (9 - (k + 1)) * V2 = P at *
  have hne : part + 10 * P ≠ 0 := by
    rcases h with h | h
    · omega
    · have := hp h; omega
  rw [dig_pos (by decide) hne]
  have e1 : (part + 10 * P) % 10 = part % 10 := by omega
  have e2 : (part + 10 * P) / 10 = part / 10 + P := by omega
  rw [e1, e2]
theorem chunk_end {part V2 : Nat} (h : part < 10 ^ (9 - 9)) : part + 10 ^ (9 - 9) * V2 = V2 := by
  simp at h ⊢
  omega
theorem chunk_lt {part k : Nat} (hk : k < 9) (h : part < 10 ^ (9 - k)) : part / 10 < 10 ^ (9 - (k + 1)) := by
  rw [show 9 - k = (9 - (k + 1)) + 1 by omega, Nat.pow_succ] at h
  exact (Nat.div_lt_iff_lt_mul (by decide)).2 h

theorem dig10_len {n : Nat} {l : List Nat} (hl : Ws l) (hn : l.length ≤ n) : (dig 10 (val B32 l)).length ≤ 10 * n := by
  have h1 := val_lt (B := B32) (by decide) l hl
  have h2 : B32 ^ l.length ≤ B32 ^ n := Nat.pow_le_pow_right (by decide) hn
  have h3 : B32 ^ n ≤ 10 ^ (10 * n) := by
    rw [Nat.pow_mul]
    exact Nat.pow_le_pow_left (by decide) n
  exact dig_len_le (by decide) (by omega)
theorem decD_len' {n : Nat} {l : List Nat} (hl : Ws l) (hn : l.length ≤ n) : (decD (val B32 l)).length ≤ 10 * n + 1 := by
  unfold decD
  split
  · simp
  · rw [List.length_reverse]
    have := dig10_len hl hn
    omega

theorem live_mul : dig B32 (val B32 [4294967295] * val B32 [4294967295]) = [1, 4294967294] := by
  have e : val B32 [4294967295] * val B32 [4294967295] = 18446744065119617025 := by simp [val]
  rw [e, dig_pos B32_two (by decide), dig_pos B32_two (by unfold B32; decide), show 18446744065119617025 / B32 / B32 = 0 by unfold B32; decide, dig_zero]
  unfold B32
  rfl
theorem live_text : decD (val B32 [0, 1]) = [4, 2, 9, 4, 9, 6, 7, 2, 9, 6] := by
  have e : val B32 [0, 1] = 4294967296 := by simp [val, B32]
  rw [e, decD_step (by decide), decD_step (by decide), decD_step (by decide), decD_step (by decide), decD_step (by decide), decD_step (by decide), decD_step (by decide), decD_step (by decide), decD_step (by decide), decD_small (by decide)]
  rfl

end Go.Proofs.YtlhaepcnhkaclaaDoor

namespace Go.Proofs.YtlhaepcnhkaclaaDoor
set_option linter.unusedVariables false
open Go Go.RowKit

theorem decD_le9 (m : Nat) : ∀ d ∈ decD m, d ≤ 9 := by
  unfold decD
  split
  · simp
  · intro d hd
    have := dig_lt (B := 10) (by decide) m d (by simpa using hd)
    omega
def dTx (m : Nat) : List Nat := (decD m).map (48 + ·)
theorem natsOf_decS (m : Nat) : natsOf (decS m) = dTx m := by
  unfold natsOf decS decB dTx
  simp only [List.map_map]
  refine List.map_congr_left fun d hd => ?_
  have h := decD_le9 m d hd
  show (UInt8.ofNat (48 + d)).toNat = 48 + d
  rw [UInt8.toNat_ofNat']
  omega
theorem dTx_small {m : Nat} (h : m < 10) : dTx m = [48 + m] := by unfold dTx; rw [decD_small h]; rfl
theorem dTx_step {m : Nat} (h : 10 ≤ m) : dTx m = dTx (m / 10) ++ [48 + m % 10] := by unfold dTx; rw [decD_step h]; simp
theorem dTx_dval (m : Nat) : dval (dTx m) = m := by
  induction m using Nat.strongRecOn with
  | _ m ih =>
    by_cases h : m < 10
    · rw [dTx_small h]; simp [dval]
    · rw [dTx_step (by omega), dval_snoc, ih _ (by omega)]; omega
theorem dTx_ne (m : Nat) : dTx m ≠ [] := by
  by_cases h : m < 10
  · rw [dTx_small h]; simp
  · rw [dTx_step (by omega)]; simp
theorem dTx_head {m : Nat} (h : m ≠ 0) : (dTx m).getD 0 0 ≠ 48 := by
  induction m using Nat.strongRecOn with
  | _ m ih =>
    by_cases h9 : m < 10
    · rw [dTx_small h9]; simp; omega
    · have h1 := ih (m / 10) (by omega) (by omega)
      rw [dTx_step (by omega)]
      cases hd : dTx (m / 10) with
      | nil => exact absurd hd (dTx_ne _)
      | cons x r => rw [hd] at h1; simpa using h1
theorem dTx_at (m : Nat) : ∀ c ∈ dTx m, 48 ≤ c ∧ c ≤ 57 := by
  intro c hc
  unfold dTx at hc
  simp only [List.mem_map] at hc
  obtain ⟨d, hd, rfl⟩ := hc
  have := decD_le9 m d hd
  omega
theorem dTx_plain (m : Nat) : PlainL (dTx m) := by
  refine ⟨dTx_ne m, fun h => ?_, dTx_at m⟩
  by_cases h0 : m = 0
  · rw [h0, dTx_small (by decide)]; simp
  · exact absurd h (dTx_head h0)

end Go.Proofs.YtlhaepcnhkaclaaDoor

namespace Go.Proofs.YtlhaepcnhkaclaaDoor
set_option linter.unusedVariables false
open Go Go.RowKit

theorem two {w : World} {g : Nat} {v0 v1 : Value} (h0 : w.cell? ⟨g, 0, none⟩ = some v0) (h1 : w.cell? ⟨g, 1, none⟩ = some v1) :
    ∀ j v, (#[v0, v1] : Array Value).toList[j]? = some v → w.cell? ⟨g, j, none⟩ = some v := by
  intro j v hv
  match j, hv with
  | 0, hv => simp at hv; rw [h0, hv]
  | 1, hv => simp at hv; rw [h1, hv]
  | n + 2, hv => simp at hv

theorem Sl.set {u : World} {a : Option Addr} {n cap : Nat} {k : IntKind} {l : List Nat} (h : Sl u a n cap (ints k l)) {p : Addr} {old : Value} (v : Value) (hp : u.cell? p = some old) (hne : ∀ x, old ≠ .int k x) :
    Sl (u.setCell p v) a n cap (ints k l) := by
  refine ⟨h.1, h.2.1, h.2.2.1, fun h0 => ?_⟩
  obtain ⟨b, off, ha, hc⟩ := h.2.2.2 h0
  refine ⟨b, off, ha, fun i x hx => ?_⟩
  have h1 := hc i x hx
  rw [World.cell?_setCell_other, h1]
  rintro rfl
  rw [hp] at h1
  simp only [ints, List.getElem?_map, Option.map_eq_some_iff] at hx
  obtain ⟨y, _, rfl⟩ := hx
  exact hne _ (Option.some.inj h1)

/-- A sign and a size as a number. -/
def wz (neg : Bool) (m : Nat) : Int := if neg then -(m : Int) else (m : Int)

/-- The call hands back a whole number as no call answers another one. -/
def RetW (w : World) (z : Int) (e : Ending) (w' : World) : Prop :=
  ∃ a n cap, e = .returned (.agg #[.bool (decide (z < 0)), .slice a n cap]) ∧ Sl w' a n cap (ints .u32 (dig B32 z.natAbs)) ∧ Ext w w'

/-- Stored into a block of the call's own. -/
theorem RetW.stored {w u : World} {z : Int} {g : Nat} {b0 : Bool} {a : Option Addr} {n cap x2 x3 : Nat} {x1 : Option Addr} {b : Bool}
    (h0 : u.cell? ⟨g, 0, none⟩ = some (.bool b0)) (h1 : u.cell? ⟨g, 1, none⟩ = some (.slice x1 x2 x3)) (hs : Sl u a n cap (ints .u32 (dig B32 z.natAbs))) (he : Ext w u) (hg : w.heap.size ≤ g) (hb : b = decide (z < 0)) :
    RetW w z (.returned (.agg #[.bool b, .slice a n cap])) ((u.setCell ⟨g, 0, none⟩ (.bool b)).setCell ⟨g, 1, none⟩ (.slice a n cap)) := by
  subst hb
  refine ⟨a, n, cap, rfl, ?_, (he.store hg _).store hg _⟩
  refine (hs.set _ h0 (fun x hx => by cases hx)).set _ (old := .slice x1 x2 x3) ?_ (fun x hx => by cases hx)
  exact (World.cell?_setCell_other u ⟨g, 0, none⟩ ⟨g, 1, none⟩ _ (by simp)).trans h1

theorem dig_len_pos {m : Nat} : 0 < (dig B32 m).length ↔ m ≠ 0 := by
  constructor
  · rintro h rfl; rw [dig_zero] at h; simp at h
  · intro h; rw [dig_pos B32_two h]; simp

/-- A whole number that came in, or was answered. -/
structure WhIn (w : World) (neg : Bool) (a : Option Addr) (n cap : Nat) (z : Int) : Prop where
  sl : ∃ l, Sl w a n cap (ints .u32 l) ∧ Ws l ∧ wz neg (val B32 l) = z
  le : n ≤ 549755813888

theorem wz_canon (z : Int) : wz (decide (z < 0)) z.natAbs = z := by
  unfold wz
  by_cases h : z < 0
  · simp [h]; omega
  · simp [h]; omega

/-- The sign of a number. -/
def sgn (z : Int) : Int := if z = 0 then 0 else if z < 0 then -1 else 1

theorem RetW.whIn {w w' : World} {z : Int} {e : Ending} (h : RetW w z e w') (hn : (dig B32 z.natAbs).length ≤ 549755813888) :
    ∃ a n cap, e = .returned (.agg #[.bool (decide (z < 0)), .slice a n cap]) ∧ WhIn w' (decide (z < 0)) a n cap z ∧ Sl w' a n cap (ints .u32 (dig B32 z.natAbs)) ∧ Ext w w' := by
  obtain ⟨a, n, cap, rfl, hs, he⟩ := h
  have h2 := hs.int_len
  exact ⟨a, n, cap, rfl, ⟨⟨_, hs, Ws.dig _, by rw [val_dig B32_two]; exact wz_canon z⟩, by omega⟩, hs, he⟩
theorem WhIn.ext {w u : World} {neg : Bool} {a : Option Addr} {n cap : Nat} {z : Int} (h : WhIn w neg a n cap z) (he : Ext w u) : WhIn u neg a n cap z :=
  let ⟨⟨l, h1, h2, h3⟩, h4⟩ := h; ⟨⟨l, h1.ext he, h2, h3⟩, h4⟩

end Go.Proofs.YtlhaepcnhkaclaaDoor

namespace Go.Proofs.YtlhaepcnhkaclaaDoor
set_option linter.unusedVariables false
open Go Go.RowKit

theorem wz_not (neg : Bool) (m : Nat) : wz (!neg) m = -wz neg m := by unfold wz; cases neg <;> simp

theorem add_same {b : Bool} {x y : Nat} : wz b (x + y) = wz b x + wz b y := by unfold wz; cases b <;> simp <;> omega
theorem add_other {b b' : Bool} {x y : Nat} (hb : b ≠ b') (h : y ≤ x) : wz b (x - y) = wz b x + wz b' y := by
  unfold wz
  cases b <;> cases b' <;> simp at hb <;> simp <;> omega
theorem add_other' {b b' : Bool} {x y : Nat} (hb : b ≠ b') (h : x ≤ y) : wz b' (y - x) = wz b x + wz b' y := by
  unfold wz
  cases b <;> cases b' <;> simp at hb <;> simp <;> omega
theorem dig_add_len (x y : List Nat) (hx : Ws x) (hy : Ws y) (N : Nat) (h1 : x.length ≤ N) (h2 : y.length ≤ N) : (dig B32 (val B32 x + val B32 y)).length ≤ N + 1 := by
  have a1 := val_lt (B := B32) (by decide) x hx
  have a2 := val_lt (B := B32) (by decide) y hy
  have b1 : B32 ^ x.length ≤ B32 ^ N := Nat.pow_le_pow_right (by decide) h1
  have b2 : B32 ^ y.length ≤ B32 ^ N := Nat.pow_le_pow_right (by decide) h2
  refine dig_len_le B32_two ?_
  rw [Nat.pow_succ]
  have : B32 ^ N * 2 ≤ B32 ^ N * B32 := Nat.mul_le_mul_left _ B32_two
  omega

end Go.Proofs.YtlhaepcnhkaclaaDoor

namespace Go.Proofs.YtlhaepcnhkaclaaDoor
set_option linter.unusedVariables false
open Go Go.RowKit

theorem natAbs_len {z : Int} {N : Nat} (h : z.natAbs < B32 ^ N) : (dig B32 z.natAbs).length ≤ N := dig_len_le B32_two h
theorem WhIn.lt {w : World} {neg : Bool} {a : Option Addr} {n cap : Nat} {z : Int} (h : WhIn w neg a n cap z) : z.natAbs < B32 ^ n := by
  obtain ⟨⟨l, hs, hl, hz⟩, hn⟩ := h
  have := val_lt (B := B32) (by decide) l hl
  rw [hs.int_len] at this
  have h2 : z.natAbs = val B32 l := by rw [← hz]; unfold wz; split <;> omega
  rw [h2]; exact this

end Go.Proofs.YtlhaepcnhkaclaaDoor

namespace Go.Proofs.YtlhaepcnhkaclaaDoor
set_option linter.unusedVariables false
open Go Go.RowKit

/-- What Parse answers: a number's words, 3: it is none, 4: too long. -/
def ParseR (w : World) (l : List Nat) (e : Ending) (w' : World) : Prop :=
  (2000 < l.length ∧ e = .returned (.tuple #[.slice none 0 0, .int .i64 4]) ∧ Ext w w') ∨
  (l.length ≤ 2000 ∧ ¬ PlainL l ∧ e = .returned (.tuple #[.slice none 0 0, .int .i64 3]) ∧ Ext w w') ∨
  (l.length ≤ 2000 ∧ PlainL l ∧ ∃ a n cap, e = .returned (.tuple #[.slice a n cap, .int .i64 0]) ∧ Sl w' a n cap (ints .u32 (dig B32 (dval l))) ∧ Ext w w')

theorem dval_lt (l : List Nat) (h : ∀ c ∈ l, c ≤ 57) : dval l < B32 ^ l.length := by
  have : ∀ (l : List Nat), (∀ c ∈ l, c ≤ 57) → ∀ a m : Nat, a < B32 ^ m → l.foldl (fun a c => 10 * a + (c - 48)) a < B32 ^ (m + l.length) := by
    intro l
    induction l with
    | nil => intro _ a m ha; simpa using ha
    | cons c r ih =>
      intro h a m ha
      have hc := h c (by simp)
      have h2 : 10 * a + (c - 48) < B32 ^ (m + 1) := by
        rw [Nat.pow_succ]
        have : B32 ^ m * 20 ≤ B32 ^ m * B32 := Nat.mul_le_mul_left _ (by unfold B32; omega)
        have : 1 ≤ B32 ^ m := Nat.pow_pos (by decide)
        omega
      have := ih (fun x hx => h x (by simp [hx])) _ _ h2
      simp only [List.foldl_cons, List.length_cons]
      rw [show m + (r.length + 1) = m + 1 + r.length by omega]
      exact this
  have := this l h 0 0 (by simp)
  simpa [dval] using this

theorem ws10 : Ws [10] := by intro x hx; simp at hx; subst hx; decide

end Go.Proofs.YtlhaepcnhkaclaaDoor

namespace Go.Proofs.YtlhaepcnhkaclaaDoor
set_option linter.unusedVariables false
open Go Go.RowKit

/-- What Int answers. -/
def intR (z : Int) : Value := if -9223372036854775808 ≤ z ∧ z ≤ 9223372036854775807 then .tuple #[.int .i64 z, .bool true] else .tuple #[.int .i64 0, .bool false]

theorem sgn_neg {z : Int} (h : z < 0) : sgn z = -1 := by unfold sgn; rw [if_neg (by omega), if_pos h]
theorem sgn_nonneg {z : Int} (h : 0 ≤ z) : 0 ≤ sgn z := by unfold sgn; split <;> (try split) <;> omega
theorem sgn_pos {z : Int} (h : 0 < z) : sgn z = 1 := by unfold sgn; rw [if_neg (by omega), if_neg (by omega)]
theorem sgn_nonpos {z : Int} (h : z ≤ 0) : sgn z ≤ 0 := by unfold sgn; split <;> (try split) <;> omega

theorem natAbs_sub_len {z c : Int} {n : Nat} (h : z.natAbs < B32 ^ n) (hc : c.natAbs ≤ 9223372036854775808) : (dig B32 (z - c).natAbs).length ≤ n + 2 := by
  refine natAbs_len ?_
  have h1 : (z - c).natAbs ≤ z.natAbs + c.natAbs := by omega
  have h2 : B32 ^ (n + 2) = B32 ^ n * 18446744073709551616 := by rw [Nat.pow_add]; rfl
  have h3 : 1 ≤ B32 ^ n := Nat.pow_pos (by decide)
  rw [h2]
  omega

theorem val_drop (l : List Nat) (k : Nat) (hk : k < l.length) : val B32 (l.drop k) = l[k] + B32 * val B32 (l.drop (k + 1)) := by
  rw [List.drop_eq_getElem_cons hk]
  rfl
theorem val_drop_le (l : List Nat) : ∀ k, val B32 (l.drop k) ≤ val B32 l := by
  induction l with
  | nil => intro k; simp
  | cons x r ih =>
    intro k
    cases k with
    | zero => simp
    | succ k =>
      have := ih k
      simp only [List.drop_succ_cons, val]
      have : val B32 r ≤ B32 * val B32 r := Nat.le_mul_of_pos_left _ (by decide)
      omega

/-- A number's text. -/
def textZ (z : Int) : ByteArray := if z < 0 then ⟨#[45]⟩ ++ decS z.natAbs else decS z.natAbs

end Go.Proofs.YtlhaepcnhkaclaaDoor

namespace Go.Proofs.YtlhaepcnhkaclaaDoor
set_option linter.unusedVariables false
open Go Go.RowKit

theorem bodyPost_cells_tmp2 {P : Program} {fn : Func} {R : Ending → World → Prop} {a : Act} {w : World} {p q : Tmp} {ty : TypeId} {d : TypeDesc} {g : Nat} {cs : Array Value} {v : Value} (h : fn.results = #[.cell p ty, .tmp q])
    (hp : a.tmps.getD p undef = .pointer (some ⟨g, 0, none⟩)) (hu : P.underlying ty = some d) (hd : (match d with | .struct _ | .array _ _ => true | _ => false) = true) (hi : (P.info? ty).map (·.size) = some cs.size)
    (hg : ∀ j v, cs.toList[j]? = some v → w.cell? ⟨g, j, none⟩ = some v) (hq : a.tmps.getD q undef = v) (hdef : a.defers = []) (hR : R (.returned (.tuple #[.agg cs, v])) w) : bodyPost P fn R .ret a w := by
  refine bodyPost_ret (v := .tuple #[.agg cs, v]) ?_ hdef hR
  have hp' : a.tmps[p]?.getD undef = .pointer (some ⟨g, 0, none⟩) := by simpa using hp
  have hq' : a.tmps[q]?.getD undef = v := by simpa using hq
  simp [results, h, hp', hq', asAddr, run_loadVar_cells w g ty cs d hg hu hd hi]

def isNeg (l : List Nat) : Bool := decide (l.getD 0 0 = 45)
def behind (l : List Nat) : List Nat := if isNeg l then l.drop 1 else l
/-- What Parse answers: what is wrong, and the number. -/
def whParse (l : List Nat) : Nat × Int :=
  if 2000 < (behind l).length then (4, 0) else if ¬ PlainL (behind l) then (3, 0) else if isNeg l = true ∧ dval (behind l) = 0 then (3, 0) else (0, wz (isNeg l) (dval (behind l)))
def ParseW (w : World) (r : Nat × Int) (e : Ending) (w' : World) : Prop :=
  ∃ a n cap, e = .returned (.tuple #[.agg #[.bool (decide (r.2 < 0)), .slice a n cap], .int .i64 ((r.1 : Nat) : Int)]) ∧ Sl w' a n cap (ints .u32 (dig B32 r.2.natAbs)) ∧ Ext w w'

theorem ParseW.zero {w u : World} {g c x2 x3 : Nat} {b0 : Bool} {x1 : Option Addr} (h0 : u.cell? ⟨g, 0, none⟩ = some (.bool b0)) (h1 : u.cell? ⟨g, 1, none⟩ = some (.slice x1 x2 x3)) (he : Ext w u) (hg : w.heap.size ≤ g) :
    ParseW w (c, 0) (.returned (.tuple #[.agg #[.bool false, .slice none 0 0], .int .i64 (c : Int)])) ((u.setCell ⟨g, 0, none⟩ (.bool false)).setCell ⟨g, 1, none⟩ (.slice none 0 0)) :=
  ⟨none, 0, 0, rfl, by simpa [dig_zero, ints] using Sl.nil _, (he.store hg _).store hg _⟩
theorem ParseW.some {w u : World} {g x2 x3 : Nat} {b0 b : Bool} {x1 a : Option Addr} {n cap : Nat} {z : Int} (h0 : u.cell? ⟨g, 0, none⟩ = some (.bool b0)) (h1 : u.cell? ⟨g, 1, none⟩ = some (.slice x1 x2 x3)) (hs : Sl u a n cap (ints .u32 (dig B32 z.natAbs)))
    (he : Ext w u) (hg : w.heap.size ≤ g) (hb : b = decide (z < 0)) :
    ParseW w (0, z) (.returned (.tuple #[.agg #[.bool b, .slice a n cap], .int .i64 0])) ((u.setCell ⟨g, 0, none⟩ (.bool b)).setCell ⟨g, 1, none⟩ (.slice a n cap)) := by
  obtain ⟨a', n', cap', h, hs', he'⟩ := RetW.stored h0 h1 hs he hg hb
  simp only [Ending.returned.injEq, Value.agg.injEq] at h
  have h2 := congrArg Array.toList h
  simp at h2
  obtain ⟨rfl, rfl, rfl, rfl⟩ := h2
  exact ⟨a, n, cap, rfl, hs', he'⟩

end Go.Proofs.YtlhaepcnhkaclaaDoor

namespace Go.Proofs.YtlhaepcnhkaclaaDoor
set_option linter.unusedVariables false
open Go Go.RowKit

/-- 'd = append(d, x)' of a byte: which other blocks stay. -/
theorem wpList_app1G {P : Program} {ops : Array Oper} {rest : List Oper} {o : Oper} {a : Act} {Q : Exit → Act → World → Prop} {W w : World} {t e e' : TypeId} {z : Value} {bytes : Nat} (hT : SlT P t e z bytes)
    (hgd : o.guard = none) (s x : Operand) (ho : o.op = .call { callee := .builtin .append, args := #[s, x], argTypes := #[t, t] })
    {v : Value} {n : Nat} {xs : List Value} (hown : w.ownsRow W.heap.size e 1 v n xs) (he : Ext W w) (u : Value) (hu : u.oneCell' = true) {c : Nat} (hs : a.eval s = v)
    (hx : a.eval x = .slice (some ⟨w.heap.size, 0, none⟩) 1 c) (hb : n + 1 ≤ 17592186044416) (hb' : bytes ≤ 8)
    (h : ∀ v' w', w'.ownsRow W.heap.size e 1 v' (n + 1) (xs ++ [u]) → Ext W w' → (w.alloc (.cells #[u] e')).grownBy w' v.ownBlock → wpList P ops Q rest (a.put o.dst v') w') :
    wpList P ops Q (o :: rest) a (w.alloc (.cells #[u] e')) := by
  obtain ⟨ht, i, hi, hz, hsz, hby, hzs⟩ := hT
  refine wpList_plain hgd fun _ hK => ?_
  refine wp_append_own _ s x t ho W.heap.size e i z 1 bytes ht hi hz hsz hby hzs (by decide) v n xs hs (hown.alloc _) _ 1 c [u] hx rfl (cell_one_new _ _ _) (by simpa using hu) (by unfold maxLen; omega)
    (Nat.le_trans (Nat.mul_le_mul hb hb') (by decide)) ((he.alloc _).size) ?_
  intro v' w' h1 h2 _
  exact hK _ _ (h v' w' h1 (Below.grown (he.alloc _) h2 (he.alloc _).size (fun k hk => (hown.lt k hk).1)) h2)

def sliceLen : Value → Nat
  | .slice _ n _ => n
  | _ => 0
theorem row_sliceLen {w : World} {B e n : Nat} {v : Value} {xs : List Value} (h : w.ownsRow B e 1 v n xs) : sliceLen v = n := by
  obtain ⟨a, cap, rfl, _⟩ := Sl.of_owns h
  rfl

theorem ownsRow_ext1 {w u : World} {B e n : Nat} {v : Value} {xs : List Value} (h : w.ownsRow B e 1 v n xs) (he : Ext w u) : u.ownsRow B e 1 v n xs := by
  obtain ⟨h1, h2⟩ := h
  refine ⟨h1, ?_⟩
  rcases h2 with h2 | ⟨g, cap, cur, rfl, hg, hh, hn, hm, hs, hx⟩
  · exact .inl h2
  · have hlt : g < w.heap.size := by
      rcases Nat.lt_or_ge g w.heap.size with h | h
      · exact h
      · rw [Array.getElem?_eq_none h] at hh; cases hh
    exact .inr ⟨g, cap, cur, rfl, hg, (he.block g hlt).trans hh, hn, hm, hs, hx⟩

/-- The letters of digits. -/
def lets (E : List Nat) : List Nat := E.map (48 + ·)
theorem lets_append (E F : List Nat) : lets (E ++ F) = lets E ++ lets F := by simp [lets]

end Go.Proofs.YtlhaepcnhkaclaaDoor

namespace Go.Proofs.YtlhaepcnhkaclaaDoor
set_option linter.unusedVariables false
open Go Go.RowKit

end Go.Proofs.YtlhaepcnhkaclaaDoor

namespace Go.Proofs.YtlhaepcnhkaclaaDoor
set_option linter.unusedVariables false
open Go Go.RowKit

theorem wsOf {l : List Nat} (h : (l.all fun x => decide (x ≤ 4294967295)) = true) : Ws l := by
  intro x hx
  have := List.all_eq_true.1 h x hx
  simp at this
  unfold B32
  omega

end Go.Proofs.YtlhaepcnhkaclaaDoor

namespace Go.Proofs.YtlhaepcnhkaclaaDoor
set_option linter.unusedVariables false
open Go Go.RowKit

set_option maxRecDepth 100000 in
set_option maxHeartbeats 1000000 in
theorem w_clean_any (neg : Bool) (a : Option Addr) (n cap m : Nat) (w : World) (hs : Sl w a n cap (ints .u32 (dig B32 m))) :
    Calls Tryd.prog 94 #[.bool neg, .slice a n cap] w (RetW w (wz neg m)) := by
  have hln := hs.int_len
  have hA : (wz neg m).natAbs = m := by unfold wz; split <;> omega
  have hp := @dig_len_pos m
  have hN : neg = true ∧ 0 < n ↔ wz neg m < 0 := by
    unfold wz
    cases neg
    · simp
    · simp; omega
  have HN := hidP hN; have HA := hidP hA; have HS := hidP hs
  clear hN hA hs hp hln
  cases neg with
  | false =>
    go_enter Tryd.func94, Tryd.ntmps94
    go_wp2_with fail
    refine bodyPost_cells rfl rfl Tryd.underlying100 rfl (by kernel_rfl) (two (by go_simp; try rfl) (by go_simp; try rfl)) rfl ?_
    exact ⟨a, n, cap, by rw [show decide (wz false m < 0) = false by have := HN.out; simp at this; simp; omega], by rw [HA.out]; exact HS.out.ext ((Ext.refl _).alloc _), (Ext.refl _).alloc _⟩
  | true =>
    by_cases h0 : 0 < n
    · have h0i : (0 : Int) < (n : Int) := by omega
      go_enter Tryd.func94, Tryd.ntmps94
      go_wp2_with fail
      refine bodyPost_cells rfl rfl Tryd.underlying100 rfl (by kernel_rfl) (two (by go_simp; try rfl) (by go_simp; try rfl)) rfl ?_
      exact ⟨a, n, cap, by rw [show decide (wz true m < 0) = true by have := HN.out; simp at this; simp; omega], by rw [HA.out]; exact HS.out.ext ((Ext.refl _).alloc _), (Ext.refl _).alloc _⟩
    · obtain rfl : n = 0 := by omega
      go_enter Tryd.func94, Tryd.ntmps94
      go_wp2_with fail
      refine bodyPost_cells rfl rfl Tryd.underlying100 rfl (by kernel_rfl) (two (by go_simp; try rfl) (by go_simp; try rfl)) rfl ?_
      exact ⟨a, 0, cap, by rw [show decide (wz true m < 0) = false by have := HN.out; simp at this; simp; omega], by rw [HA.out]; exact HS.out.ext ((Ext.refl _).alloc _), (Ext.refl _).alloc _⟩

set_option maxRecDepth 100000 in
set_option maxHeartbeats 1000000 in
theorem w_Make_any (neg : Bool) (a : Option Addr) (n cap : Nat) (l : List Nat) (w : World) (hs : Sl w a n cap (ints .u32 l)) (hl : Ws l) (hn : n ≤ 1099511627776) :
    Calls Tryd.prog 91 #[.bool neg, .slice a n cap] w (RetW w (wz neg (val B32 l))) := by
  go_enter Tryd.func91, Tryd.ntmps91
  go_wp2_with fail
  refine (nat_Trim_any a n cap l _ (hs.ext ((Ext.refl _).alloc _)) hl hn).mono ?_
  rintro e w1 ⟨a1, n1, cap1, rfl, hs1, he1⟩
  have z0 := he1.cell' (p := ⟨w.heap.size, 0, none⟩) (v := .bool false) (by go_simp; try rfl)
  have q0 : w1.frozen? ⟨w.heap.size, 0, none⟩ = false := (he1.frozen (p := ⟨w.heap.size, 0, none⟩) (by simp)).trans (by go_simp)
  have z1 := he1.cell' (p := ⟨w.heap.size, 1, none⟩) (v := .slice none 0 0) (by go_simp; try rfl)
  have q1 : w1.frozen? ⟨w.heap.size, 1, none⟩ = false := (he1.frozen (p := ⟨w.heap.size, 1, none⟩) (by simp)).trans (by go_simp)
  have HE : Ext w w1 := ((Ext.refl _).alloc _).trans he1
  clear he1
  go_wp2_with fail
  refine (w_clean_any neg a1 n1 cap1 _ _ hs1).mono ?_
  rintro e w3 ⟨a3, n3, cap3, rfl, hs3, he3⟩
  have hgl : w.heap.size < w1.heap.size := World.block_lt_of_cell? w1 _ z0
  replace z0 := he3.cell' z0
  replace q0 := (he3.frozen (p := ⟨w.heap.size, 0, none⟩) hgl).trans q0
  replace z1 := he3.cell' z1
  replace q1 := (he3.frozen (p := ⟨w.heap.size, 1, none⟩) hgl).trans q1
  clear hgl
  replace HE := HE.trans he3
  clear he3 hs1
  generalize hbb : decide (wz neg (val B32 l) < 0) = bb at *
  have HBB := hidP hbb; clear hbb
  go_wp2_with fail
  refine bodyPost_cells rfl rfl Tryd.underlying100 rfl (by kernel_rfl) (two (by go_simp; try rfl) (by go_simp; try rfl)) rfl ?_
  exact RetW.stored z0 z1 hs3 HE (Nat.le_refl _) HBB.out.symm

set_option maxRecDepth 100000 in
set_option maxHeartbeats 1000000 in
theorem w_Of_any (n : Int) (w : World) (h1 : -9223372036854775808 ≤ n) (h2 : n ≤ 9223372036854775807) :
    Calls Tryd.prog 81 #[.int .i64 n] w (RetW w n) := by
  by_cases h0 : 0 ≤ n
  · obtain ⟨m, hm⟩ : ∃ m : Nat, n = (m : Int) := ⟨n.toNat, by omega⟩
    subst hm
    have ez : wz false m = (m : Int) := rfl
    have EZ := hidP ez
    clear ez
    go_enter Tryd.func81, Tryd.ntmps81
    go_wp2_with fail
    refine (nat_Of_any m _ (by omega)).mono ?_
    rintro e w1 ⟨a1, n1, cap1, rfl, hs1, he1⟩
    have z0 := he1.cell' (p := ⟨w.heap.size, 0, none⟩) (v := .bool false) (by go_simp; try rfl)
    have q0 : w1.frozen? ⟨w.heap.size, 0, none⟩ = false := (he1.frozen (p := ⟨w.heap.size, 0, none⟩) (by simp)).trans (by go_simp)
    have z1 := he1.cell' (p := ⟨w.heap.size, 1, none⟩) (v := .slice none 0 0) (by go_simp; try rfl)
    have q1 : w1.frozen? ⟨w.heap.size, 1, none⟩ = false := (he1.frozen (p := ⟨w.heap.size, 1, none⟩) (by simp)).trans (by go_simp)
    have HE : Ext w w1 := ((Ext.refl _).alloc _).trans he1
    clear he1
    go_wp2_with fail
    refine (w_clean_any false a1 n1 cap1 _ _ hs1).mono ?_
    rw [EZ.out]
    rintro e w3 ⟨a3, n3, cap3, rfl, hs3, he3⟩
    have hgl : w.heap.size < w1.heap.size := World.block_lt_of_cell? w1 _ z0
    replace z0 := he3.cell' z0
    replace q0 := (he3.frozen (p := ⟨w.heap.size, 0, none⟩) hgl).trans q0
    replace z1 := he3.cell' z1
    replace q1 := (he3.frozen (p := ⟨w.heap.size, 1, none⟩) hgl).trans q1
    clear hgl
    replace HE := HE.trans he3
    clear he3 hs1
    generalize hbb : decide ((m : Int) < 0) = bb at *
    have HBB := hidP hbb; clear hbb
    go_wp2_with fail
    refine bodyPost_cells rfl rfl Tryd.underlying100 rfl (by kernel_rfl) (two (by go_simp; try rfl) (by go_simp; try rfl)) rfl ?_
    exact RetW.stored z0 z1 hs3 HE (Nat.le_refl _) HBB.out.symm
  · obtain ⟨m, hm⟩ : ∃ m : Nat, n = -((m : Int) + 1) := ⟨(-1 - n).toNat, by omega⟩
    subst hm
    have hml : m ≤ 9223372036854775807 := by omega
    have ez : wz true (m + 1) = -((m : Int) + 1) := by unfold wz; simp
    have EZ := hidP ez
    clear ez
    have hlt : ¬ (0 : Int) ≤ -((m : Int) + 1) := h0
    obtain ⟨zn, hzn⟩ : ∃ zn : Int, zn = -((m : Int) + 1) := ⟨_, rfl⟩
    rw [← hzn] at EZ h0 h1 h2 ⊢
    have hz1 : zn < 0 := by omega
    have hw : wrap64 (-wrap64 (zn + 1)) = (m : Int) := by unfold wrap64; omega
    have HW := hidP hw
    clear hlt hw hzn h0 h1
    go_enter Tryd.func81, Tryd.ntmps81
    go_upto_region 3 with fail
    iterate 9 go_step
    rw [HW.out]
    generalize wrap64 (zn + 1) = q1
    go_wp2_with fail
    refine (nat_Of_any (m + 1) _ (by omega)).mono ?_
    rintro e w1 ⟨a1, n1, cap1, rfl, hs1, he1⟩
    have z0 := he1.cell' (p := ⟨w.heap.size, 0, none⟩) (v := .bool false) (by go_simp; try rfl)
    have q0 : w1.frozen? ⟨w.heap.size, 0, none⟩ = false := (he1.frozen (p := ⟨w.heap.size, 0, none⟩) (by simp)).trans (by go_simp)
    have z1 := he1.cell' (p := ⟨w.heap.size, 1, none⟩) (v := .slice none 0 0) (by go_simp; try rfl)
    have q1 : w1.frozen? ⟨w.heap.size, 1, none⟩ = false := (he1.frozen (p := ⟨w.heap.size, 1, none⟩) (by simp)).trans (by go_simp)
    have HE : Ext w w1 := ((Ext.refl _).alloc _).trans he1
    clear he1
    go_wp2_with fail
    refine (w_clean_any true a1 n1 cap1 _ _ hs1).mono ?_
    rw [EZ.out]
    rintro e w3 ⟨a3, n3, cap3, rfl, hs3, he3⟩
    have hgl : w.heap.size < w1.heap.size := World.block_lt_of_cell? w1 _ z0
    replace z0 := he3.cell' z0
    replace q0 := (he3.frozen (p := ⟨w.heap.size, 0, none⟩) hgl).trans q0
    replace z1 := he3.cell' z1
    replace q1 := (he3.frozen (p := ⟨w.heap.size, 1, none⟩) hgl).trans q1
    clear hgl
    replace HE := HE.trans he3
    clear he3 hs1
    generalize hbb : decide (zn < 0) = bb at *
    have HBB := hidP hbb; clear hbb
    go_wp2_with fail
    refine bodyPost_cells rfl rfl Tryd.underlying100 rfl (by kernel_rfl) (two (by go_simp; try rfl) (by go_simp; try rfl)) rfl ?_
    exact RetW.stored z0 z1 hs3 HE (Nat.le_refl _) HBB.out.symm

end Go.Proofs.YtlhaepcnhkaclaaDoor

namespace Go.Proofs.YtlhaepcnhkaclaaDoor
set_option linter.unusedVariables false
open Go Go.RowKit

/-- What Uint answers. -/
def uintR (V : Nat) : Value := if V ≤ 18446744073709551615 then .tuple #[.int .u64 (V : Int), .bool true] else .tuple #[.int .u64 0, .bool false]

theorem or_zero64 (x : Nat) (h : x ≤ 4294967295) : bits .or .u64 0 (x : Int) = (x : Int) := by
  have h1 := or32 0 x (by omega) h
  simpa using h1

set_option maxRecDepth 100000 in
set_option maxHeartbeats 1000000 in
theorem nat_Uint_any (a : Option Addr) (n cap : Nat) (x : List Nat) (w : World) (hs : Sl w a n cap (ints .u32 x)) (hx : Ws x) (hn : n ≤ 1099511627776) :
    Calls Tryd.prog 106 #[.slice a n cap] w fun e w' => e = .returned (uintR (val B32 x)) ∧ w = w' := by
  have hlx := hs.int_len
  have hdl := dig_val_len B32_two x hx
  obtain ⟨m, hm⟩ : ∃ m, m = (dig B32 (val B32 x)).length := ⟨_, rfl⟩
  have hmn : m ≤ n := by omega
  have HM := hidP hm
  by_cases h3 : 3 ≤ m
  · have HR : Hid (uintR (val B32 x) = .tuple #[.int .u64 0, .bool false]) := hidP (if_neg (fun h => by
      have h4 : (dig B32 (val B32 x)).length ≤ 2 := dig_len_le B32_two (by unfold B32 at *; omega)
      omega))
    have hm2 : ((m : Int) == 2) = false := by simp; omega
    have hm1 : ((m : Int) == 1) = false := by simp; omega
    have hm0 : ((m : Int) == 0) = false := by simp; omega
    clear hm hdl
    go_enter Tryd.func106, Tryd.ntmps106
    go_wp2_with fail
    refine (nat_size_any a n cap x _ hs hx (by omega)).mono ?_
    rw [← HM.out]
    rintro e w' ⟨rfl, rfl⟩
    go_wp2_with fail
    go_ret2
    exact ⟨by rw [HR.out]; rfl, rfl⟩
  · have hV : (dig B32 (val B32 x)).length = m := hm.symm
    rcases (by omega : m = 0 ∨ m = 1 ∨ m = 2) with rfl | rfl | rfl
    · have HR : Hid (uintR (val B32 x) = .tuple #[.int .u64 0, .bool true]) := hidP (by
        have h5 := val_dig B32_two (val B32 x)
        rw [List.eq_nil_of_length_eq_zero hV] at h5
        rw [← h5]; rfl)
      clear hm hdl hV
      go_enter Tryd.func106, Tryd.ntmps106
      go_wp2_with fail
      refine (nat_size_any a n cap x _ hs hx (by omega)).mono ?_
      rw [← HM.out]
      rintro e w' ⟨rfl, rfl⟩
      go_wp2_with fail
      go_ret2
      exact ⟨by rw [HR.out]; rfl, rfl⟩
    · obtain ⟨h0, hg0⟩ := dig_get hx 0 (by omega)
      obtain ⟨b, off, rfl, hc⟩ := hs.at_int (by omega)
      have hc0 : w.cell? ⟨b, off, none⟩ = some (.int .u32 ((x[0] : Nat) : Int)) := by have := hc 0 h0; simpa using this
      have hb0 := hx.at 0 h0
      have HR : Hid (uintR (val B32 x) = .tuple #[.int .u64 ((x[0] : Nat) : Int), .bool true]) := hidP (by
        have h5 := val_dig B32_two (val B32 x)
        generalize hD : dig B32 (val B32 x) = D at *
        match D, hV with
        | [d0], _ =>
          simp at hg0
          simp [val] at h5
          rw [← h5, hg0]
          exact if_pos (by omega))
      have hor := or_zero64 x[0] (by omega)
      clear hc hm hdl hV hg0
      generalize x[0] = d0 at *
      go_enter Tryd.func106, Tryd.ntmps106
      go_wp2_with fail
      refine (nat_size_any _ n cap x _ hs hx (by omega)).mono ?_
      rw [← HM.out]
      rintro e w' ⟨rfl, rfl⟩
      go_wp2_with fail
      go_ret2
      exact ⟨by rw [HR.out]; rfl, rfl⟩
    · obtain ⟨h0, hg0⟩ := dig_get hx 0 (by omega)
      obtain ⟨h1, hg1⟩ := dig_get hx 1 (by omega)
      obtain ⟨b, off, rfl, hc⟩ := hs.at_int (by omega)
      have hc0 : w.cell? ⟨b, off, none⟩ = some (.int .u32 ((x[0] : Nat) : Int)) := by have := hc 0 h0; simpa using this
      have hc1 := hc 1 h1
      have hb0 := hx.at 0 h0
      have hb1 := hx.at 1 h1
      have HR : Hid (uintR (val B32 x) = .tuple #[.int .u64 ((x[1] * 4294967296 + x[0] : Nat) : Int), .bool true]) := hidP (by
        have h5 := val_dig B32_two (val B32 x)
        generalize hD : dig B32 (val B32 x) = D at *
        match D, hV with
        | [d0, d1], _ =>
          simp at hg0 hg1
          simp [val] at h5
          have h6 : val B32 x = x[1] * 4294967296 + x[0] := by rw [← h5, hg0, hg1]; unfold B32; omega
          rw [h6]
          exact if_pos (by omega))
      have hor := or32 x[1] x[0] (by omega) (by omega)
      clear hc hm hdl hV hg0 hg1
      generalize x[0] = d0 at *
      generalize x[1] = d1 at *
      go_enter Tryd.func106, Tryd.ntmps106
      go_wp2_with fail
      refine (nat_size_any _ n cap x _ hs hx (by omega)).mono ?_
      rw [← HM.out]
      rintro e w' ⟨rfl, rfl⟩
      go_wp2_with fail
      go_ret2
      exact ⟨by rw [HR.out]; rfl, rfl⟩

end Go.Proofs.YtlhaepcnhkaclaaDoor

namespace Go.Proofs.YtlhaepcnhkaclaaDoor
set_option linter.unusedVariables false
open Go Go.RowKit

/-- How many words a number has. -/
def dl (V : Nat) : Nat := (dig B32 V).length
theorem dl_mono {a b : Nat} (h : a ≤ b) : dl a ≤ dl b := dig_mono B32_two h
theorem dl_lt (a : Nat) : a < B32 ^ dl a := le_of_dig_len B32_two (Nat.le_refl _)
theorem dl_le {a N : Nat} (h : a < B32 ^ N) : dl a ≤ N := dig_len_le B32_two h
theorem dl_add {a b N : Nat} (ha : dl a ≤ N) (hb : dl b ≤ N) : dl (a + b) ≤ N + 1 := by
  refine dl_le ?_
  have h1 := Nat.lt_of_lt_of_le (dl_lt a) (Nat.pow_le_pow_right (by decide : B32 > 0) ha)
  have h2 := Nat.lt_of_lt_of_le (dl_lt b) (Nat.pow_le_pow_right (by decide : B32 > 0) hb)
  have h3 : 2 * B32 ^ N ≤ B32 ^ (N + 1) := by rw [Nat.pow_succ, Nat.mul_comm]; exact Nat.mul_le_mul_left _ (by decide)
  omega
theorem dl_mul (a b : Nat) : dl (a * b) ≤ dl a + dl b := by
  refine dl_le ?_
  rw [Nat.pow_add]
  rcases Nat.eq_zero_or_pos b with h | h
  · subst h; exact Nat.mul_pos (Nat.pow_pos (by decide)) (Nat.pow_pos (by decide))
  · exact Nat.lt_of_lt_of_le (Nat.mul_lt_mul_of_pos_right (dl_lt a) h) (Nat.mul_le_mul_left _ (Nat.le_of_lt (dl_lt b)))
theorem dl_div (a b : Nat) : dl (a / b) ≤ dl a := dl_mono (Nat.div_le_self a b)
theorem dl_mod (a b : Nat) : dl (a % b) ≤ dl a := dl_mono (Nat.mod_le a b)
theorem dl_sub (a b : Nat) : dl (a - b) ≤ dl a := dl_mono (Nat.sub_le a b)
theorem dl_small {a : Nat} (h : a ≤ 4294967295) : dl a ≤ 1 := dl_le (by unfold B32; omega)
theorem dl_u64 {a : Nat} (h : a ≤ 18446744073709551615) : dl a ≤ 2 := dl_le (by unfold B32; omega)
theorem dig_inj {a b : Nat} : dig B32 a = dig B32 b ↔ a = b := ⟨fun h => by rw [← val_dig B32_two a, h, val_dig B32_two], fun h => by rw [h]⟩
theorem dl_zero : dl 0 = 0 := by unfold dl; rw [dig_zero]; rfl
theorem dl_eq_zero {a : Nat} : dl a = 0 ↔ a = 0 := by
  constructor
  · intro h
    have := dl_lt a
    rw [h, Nat.pow_zero] at this
    omega
  · intro h; rw [h]; exact dl_zero

/-- A slice stands for a number. -/
def Nu (w : World) (a : Option Addr) (n cap V : Nat) : Prop := (∃ l, Sl w a n cap (ints .u32 l) ∧ Ws l ∧ val B32 l = V) ∧ n ≤ 1099511627776
/-- It has that number's own words. -/
def Nc (w : World) (a : Option Addr) (n cap V : Nat) : Prop := Sl w a n cap (ints .u32 (dig B32 V))
theorem Nu.ext {w u : World} {a : Option Addr} {n cap V : Nat} (h : Nu w a n cap V) (he : Ext w u) : Nu u a n cap V := let ⟨⟨l, hs, hl, hv⟩, hn⟩ := h; ⟨⟨l, hs.ext he, hl, hv⟩, hn⟩
theorem Nc.ext {w u : World} {a : Option Addr} {n cap V : Nat} (h : Nc w a n cap V) (he : Ext w u) : Nc u a n cap V := Sl.ext h he
theorem Nc.len {w : World} {a : Option Addr} {n cap V : Nat} (h : Nc w a n cap V) : n = dl V := (Sl.int_len h).symm
theorem Nc.nu {w : World} {a : Option Addr} {n cap V : Nat} (h : Nc w a n cap V) (hd : dl V ≤ 1099511627776) : Nu w a n cap V := ⟨⟨_, h, Ws.dig _, val_dig B32_two _⟩, by rw [h.len]; exact hd⟩
theorem Nu.dl {w : World} {a : Option Addr} {n cap V : Nat} (h : Nu w a n cap V) : dl V ≤ n := by
  obtain ⟨⟨l, hs, hl, rfl⟩, hn⟩ := h
  have := dig_val_len B32_two l hl
  rw [hs.int_len] at this
  exact this
theorem Nc.zero (w : World) : Nc w none 0 0 0 := by unfold Nc; rw [dig_zero]; exact Sl.nil _
theorem Nc.lit1 (w : World) (d : Nat) (h : 1 ≤ d) (h2 : d ≤ 4294967295) (e : TypeId) : Nc (w.alloc (.cells #[.int .u32 (d : Int)] e)) (some ⟨w.heap.size, 0, none⟩) 1 1 d := by
  unfold Nc
  rw [dig_one (by omega) h2]
  exact Sl.lit w e #[.int .u32 (d : Int)] 1 rfl (by omega)

/-- The call hands back that number's own words. -/
def RetN (w : World) (V : Nat) (e : Ending) (w' : World) : Prop := ∃ a n cap, e = .returned (.slice a n cap) ∧ Nc w' a n cap V ∧ Ext w w'
theorem RetN.of {w : World} {V : Nat} {e : Ending} {w' : World} (h : RetSl w (ints .u32 (dig B32 V)) e w') : RetN w V e w' := h
/-- .. and whether it may be. -/
def RetNB (w : World) (V : Nat) (b : Bool) (e : Ending) (w' : World) : Prop := ∃ a n cap, e = .returned (.tuple #[.slice a n cap, .bool b]) ∧ Nc w' a n cap V ∧ Ext w w'
/-- A quotient and a rest. -/
def RetQR (w : World) (x y : Nat) (e : Ending) (w' : World) : Prop :=
  ∃ a n cap a' n' cap', e = .returned (.tuple #[.slice a n cap, .slice a' n' cap', .bool (decide (y ≠ 0))]) ∧ Nc w' a n cap (if y = 0 then 0 else x / y) ∧ Nc w' a' n' cap' (if y = 0 then 0 else x % y) ∧ Ext w w'
theorem RetQR.of {w : World} {x y : Nat} {e : Ending} {w' : World} (h : RetDiv w x y e w') : RetQR w x y e w' := by
  obtain ⟨a, n, cap, a', n', cap', he, h1, h2, h3⟩ := h
  refine ⟨a, n, cap, a', n', cap', he, ?_, ?_, h3⟩
  · unfold Nc
    split at h1
    · next h0 => rw [if_pos h0, dig_zero]; exact h1
    · next h0 => rw [if_neg h0]; exact h1
  · unfold Nc
    split at h2
    · next h0 => rw [if_pos h0, dig_zero]; exact h2
    · next h0 => rw [if_neg h0]; exact h2

section
variable {a a' : Option Addr} {n cap n' cap' V V' : Nat} {w : World}
theorem n_Trim (h : Nu w a n cap V) : Calls Tryd.prog 90 #[.slice a n cap] w (RetN w V) := by
  obtain ⟨⟨l, hs, hl, rfl⟩, hn⟩ := h; exact nat_Trim_any a n cap l w hs hl hn
theorem n_Bits (h : Nu w a n cap V) : Calls Tryd.prog 92 #[.slice a n cap] w fun e w' => e = .returned (.int .i64 (bitlen V : Nat)) ∧ w = w' := by
  obtain ⟨⟨l, hs, hl, rfl⟩, hn⟩ := h; exact nat_Bits_any a n cap l w hs hl hn
theorem n_Uint (h : Nu w a n cap V) : Calls Tryd.prog 106 #[.slice a n cap] w fun e w' => e = .returned (uintR V) ∧ w = w' := by
  obtain ⟨⟨l, hs, hl, rfl⟩, hn⟩ := h; exact nat_Uint_any a n cap l w hs hl hn
theorem n_Cmp (h : Nu w a n cap V) (h' : Nu w a' n' cap' V') : Calls Tryd.prog 93 #[.slice a n cap, .slice a' n' cap'] w fun e w' => e = .returned (.int .i64 (cmpI V V')) ∧ Ext w w' := by
  obtain ⟨⟨l, hs, hl, rfl⟩, hn⟩ := h; obtain ⟨⟨l', hs', hl', rfl⟩, hn'⟩ := h'; exact nat_Cmp_any a a' n cap n' cap' l l' w hs hs' hl hl' hn hn'
theorem n_Add (h : Nu w a n cap V) (h' : Nu w a' n' cap' V') : Calls Tryd.prog 104 #[.slice a n cap, .slice a' n' cap'] w (RetN w (V + V')) := by
  obtain ⟨⟨l, hs, hl, rfl⟩, hn⟩ := h; obtain ⟨⟨l', hs', hl', rfl⟩, hn'⟩ := h'; exact nat_Add_any a a' n cap n' cap' l l' w hs hs' hl hl' hn hn'
theorem n_Sub (h : Nu w a n cap V) (h' : Nu w a' n' cap' V') : Calls Tryd.prog 105 #[.slice a n cap, .slice a' n' cap'] w (RetNB w (V - V') (decide (V' ≤ V))) := by
  obtain ⟨⟨l, hs, hl, rfl⟩, hn⟩ := h; obtain ⟨⟨l', hs', hl', rfl⟩, hn'⟩ := h'; exact nat_Sub_any a a' n cap n' cap' l l' w hs hs' hl hl' hn hn'
theorem n_Mul (h : Nu w a n cap V) (h' : Nu w a' n' cap' V') : Calls Tryd.prog 87 #[.slice a n cap, .slice a' n' cap'] w (RetN w (V * V')) := by
  obtain ⟨⟨l, hs, hl, rfl⟩, hn⟩ := h; obtain ⟨⟨l', hs', hl', rfl⟩, hn'⟩ := h'; exact nat_Mul_any a a' n cap n' cap' l l' w hs hs' hl hl' hn hn'
theorem n_Div (h : Nu w a n cap V) (h' : Nu w a' n' cap' V') : Calls Tryd.prog 103 #[.slice a n cap, .slice a' n' cap'] w (RetQR w V V') := by
  obtain ⟨⟨l, hs, hl, rfl⟩, hn⟩ := h; obtain ⟨⟨l', hs', hl', rfl⟩, hn'⟩ := h'
  exact (nat_Div_any a a' n cap n' cap' l l' w hs hs' hl hl' hn hn').mono fun _ _ => RetQR.of
theorem n_Shift_up (h : Nu w a n cap V) (m : Nat) (hm : m ≤ 4096) : Calls Tryd.prog 110 #[.slice a n cap, .int .i64 (m : Int)] w (RetN w (V * 2 ^ m)) := by
  obtain ⟨⟨l, hs, hl, rfl⟩, hn⟩ := h
  have := nat_Shift_any a n cap l (m : Int) w hs hl (by omega) (by omega)
  rw [shl32_up hm] at this
  exact this
theorem n_Shift_down (h : Nu w a n cap V) (m : Nat) (hm : m ≤ 4096) : Calls Tryd.prog 110 #[.slice a n cap, .int .i64 (-(m : Int))] w (RetN w (V / 2 ^ m)) := by
  obtain ⟨⟨l, hs, hl, rfl⟩, hn⟩ := h
  have := nat_Shift_any a n cap l (-(m : Int)) w hs hl (by omega) (by omega)
  rw [shl32_down hm] at this
  exact this
theorem n_Of (v : Nat) (w : World) (hv : v ≤ 18446744073709551615) : Calls Tryd.prog 95 #[.int .u64 v] w (RetN w v) := nat_Of_any v w hv

end
end Go.Proofs.YtlhaepcnhkaclaaDoor
