/- Joined: C1 D1 D3 F0 T1 E1 E2 E3 E4 E5 E6 F1 F2 F3 W1 W2 K10. -/
import Derived.Test.YtlhaepcnhkaclaaProg
import Derived.Outline
import Derived.Test.YtlhaepcnhkaclaaM1
import Derived.Laws.Rows
import Derived.Deep.DeepCutAuto
import Derived.Lib.BitFns
import Derived.Laws.RangeAny
import Derived.Lib.Strings
import Derived.Test.YtlhaepcnhkaclaaM2
import Derived.Test.YtlhaepcnhkaclaaM3
namespace Go.Proofs.Ytlhaepcnhkaclaa
set_option linter.unusedVariables false
open Go Go.RowKit

theorem run_loadVar_cells {P : Program} (w : World) (g : Nat) (ty : TypeId) (cs : Array Value) (d : TypeDesc) (hg : ∀ j v, cs.toList[j]? = some v → w.cell? ⟨g, j, none⟩ = some v)
    (hu : P.underlying ty = some d) (hd : (match d with | .struct _ | .array _ _ => true | _ => false) = true) (hi : (P.info? ty).map (·.size) = some cs.size) :
    (loadVar ty ⟨g, 0, none⟩).run P w = .ok (.agg cs) w := by
  have hl : (loadCells ⟨g, 0, none⟩ cs.toList.length).run P w = .ok cs.toList.toArray w :=
    run_loadCells_list (P := P) w ⟨g, 0, none⟩ cs.toList (fun j v hv => by
      have hadd : (⟨g, 0, none⟩ : Addr).add j = ⟨g, j, none⟩ := by unfold Addr.add; split <;> simp_all
      rw [hadd, hg j v hv])
  cases hq : P.info? ty with
  | none => simp [hq] at hi
  | some i =>
    have hs : i.size = cs.size := by simpa [hq] using hi
    have hagg : (isAgg ty).run P w = .ok true w := by
      unfold isAgg
      rw [Sem.run_bind, run_underlying hu w]
      cases d <;> simp_all
    simp only [Array.length_toList, Array.toArray_toList] at hl
    simp [loadVar, Sem.run_bind, hagg, sizeOf, typeInfo, hq, hs, hl]

theorem bodyPost_cells {P : Program} {fn : Func} {R : Ending → World → Prop} {a : Act} {w : World} {p : Tmp} {ty : TypeId} {d : TypeDesc} {g : Nat} {cs : Array Value} (h : fn.results = #[.cell p ty])
    (hp : a.tmps.getD p undef = .pointer (some ⟨g, 0, none⟩)) (hu : P.underlying ty = some d) (hd : (match d with | .struct _ | .array _ _ => true | _ => false) = true) (hi : (P.info? ty).map (·.size) = some cs.size)
    (hg : ∀ j v, cs.toList[j]? = some v → w.cell? ⟨g, j, none⟩ = some v) (hdef : a.defers = []) (hR : R (.returned (.agg cs)) w) : bodyPost P fn R .ret a w := by
  refine bodyPost_ret (v := .agg cs) ?_ hdef hR
  have hp' : a.tmps[p]?.getD undef = .pointer (some ⟨g, 0, none⟩) := by simpa using hp
  simp [results, h, hp', asAddr, run_loadVar_cells w g ty cs d hg hu hd hi]

/-- Four cells, one after the other. -/
theorem four {w : World} {g : Nat} {v0 v1 v2 v3 : Value} (h0 : w.cell? ⟨g, 0, none⟩ = some v0) (h1 : w.cell? ⟨g, 1, none⟩ = some v1) (h2 : w.cell? ⟨g, 2, none⟩ = some v2) (h3 : w.cell? ⟨g, 3, none⟩ = some v3) :
    ∀ j v, (#[v0, v1, v2, v3] : Array Value).toList[j]? = some v → w.cell? ⟨g, j, none⟩ = some v := by
  intro j v hv
  match j, hv with
  | 0, hv => simp at hv; rw [h0, hv]
  | 1, hv => simp at hv; rw [h1, hv]
  | 2, hv => simp at hv; rw [h2, hv]
  | 3, hv => simp at hv; rw [h3, hv]
  | n + 4, hv => simp at hv

/-- A colour. -/
def col (r g b a : Nat) : Value := .agg #[.int .u8 (r : Int), .int .u8 (g : Int), .int .u8 (b : Int), .int .u8 (a : Int)]

theorem c_of_any (r g b a : Nat) (w : World) :
    Calls Try.prog 128 #[.agg #[.int .u8 (r : Int), .int .u8 (g : Int), .int .u8 (b : Int), .int .u8 (a : Int)]] w fun e w' => e = .returned (.agg #[.int .u8 (r : Int), .int .u8 (g : Int), .int .u8 (b : Int), .int .u8 (a : Int)]) ∧
      (w.alloc (.cells #[.int .u8 (r : Int), .int .u8 (g : Int), .int .u8 (b : Int), .int .u8 (a : Int)] 46)).alloc (.cells #[.int .u8 (r : Int), .int .u8 (g : Int), .int .u8 (b : Int), .int .u8 (a : Int)] 174) = w' := by
  go_enter Try.func128, Try.ntmps128
  go_wp2
  refine bodyPost_cells rfl rfl Try.underlying174 rfl (by kernel_rfl) (four (by go_simp; try rfl) (by go_simp; try rfl) (by go_simp; try rfl) (by go_simp; try rfl)) rfl ⟨rfl, rfl⟩

theorem c_colour_any (r g b a : Nat) (w : World) :
    Calls Try.prog 129 #[.agg #[.int .u8 (r : Int), .int .u8 (g : Int), .int .u8 (b : Int), .int .u8 (a : Int)]] w fun e w' => e = .returned (.agg #[.int .u8 (r : Int), .int .u8 (g : Int), .int .u8 (b : Int), .int .u8 (a : Int)]) ∧ Ext w w' := by
  go_enter Try.func129, Try.ntmps129
  go_wp2
  refine bodyPost_cells rfl rfl Try.underlying46 rfl (by kernel_rfl) (four (by go_simp; try rfl) (by go_simp; try rfl) (by go_simp; try rfl) (by go_simp; try rfl)) rfl ⟨rfl, ?_⟩
  exact ((Ext.refl _).alloc _).alloc _

end Go.Proofs.Ytlhaepcnhkaclaa

namespace Go.Proofs.Ytlhaepcnhkaclaa
set_option linter.unusedVariables false
open Go Go.RowKit

theorem or_fig (x y : Nat) (hx : x ≤ 15) (hy : y ≤ 15) : bits .or .u8 ((x : Int) * 16) (y : Int) = 16 * (x : Int) + (y : Int) := by
  have h1 := u8_or_nat (x * 16) y (by omega) (by omega)
  have h2 : x * 16 ||| y = x * 16 + y := by
    have := Nat.shiftLeft_add_eq_or_of_lt (i := 4) (b := y) (by omega) x
    rw [Nat.shiftLeft_eq] at this
    exact this.symm
  rw [h2] at h1
  have e : (((x * 16 : Nat) : Nat) : Int) = (x : Int) * 16 := by omega
  rw [e] at h1
  rw [h1]
  omega
/-- The value of a figure, and whether it is one. -/
def valueR (c : Nat) : Value := .tuple #[.int .u8 (((digv c).getD 0 : Nat) : Int), .bool (digv c).isSome]

end Go.Proofs.Ytlhaepcnhkaclaa

namespace Go.Proofs.Ytlhaepcnhkaclaa
set_option linter.unusedVariables false
open Go Go.RowKit

/-- Digits, as a number without a sign has them. -/
def PlainL (l : List Nat) : Prop := l ≠ [] ∧ (l.getD 0 0 = 48 → l.length ≤ 1) ∧ ∀ c ∈ l, 48 ≤ c ∧ c ≤ 57
instance (l : List Nat) : Decidable (PlainL l) := by unfold PlainL; infer_instance

theorem size_zero {s : ByteArray} (h : s.size = 0) : s = ⟨#[]⟩ := by
  obtain ⟨⟨l⟩⟩ := s
  have : l.length = 0 := h
  rw [List.eq_nil_of_length_eq_zero this]
theorem toList_data (s : ByteArray) : s.toList = s.data.toList := ByteArray.toList_eq s

/-- The number of digits. -/
def dval (l : List Nat) : Nat := l.foldl (fun a c => 10 * a + (c - 48)) 0
theorem dval_snoc (l : List Nat) (c : Nat) : dval (l ++ [c]) = 10 * dval l + (c - 48) := by simp [dval]
theorem dval_ge (l : List Nat) : ∀ a, a ≤ l.foldl (fun a c => 10 * a + (c - 48)) a := by
  induction l with
  | nil => intro a; exact Nat.le_refl _
  | cons c r ih => intro a; exact Nat.le_trans (by omega) (ih (10 * a + (c - 48)))
theorem dval_take (l : List Nat) (k : Nat) : dval (l.take k) ≤ dval l := by
  have h : l = l.take k ++ l.drop k := (List.take_append_drop k l).symm
  unfold dval
  conv => rhs; rw [h, List.foldl_append]
  exact dval_ge _ _
theorem dval_next {l : List Nat} {k c : Nat} (hk : k < l.length) (hc : l.getD k 0 = c) : dval (l.take (k + 1)) = 10 * dval (l.take k) + (c - 48) := by
  rw [List.take_succ_eq_append_getElem hk, dval_snoc]
  rw [List.getD_eq_getElem?_getD, List.getElem?_eq_getElem hk] at hc
  simp only [Option.getD_some] at hc
  rw [hc]

/-- What down answers. -/
def downR (v : Nat) : Value := if v ≤ 9223372036854775808 then .tuple #[.int .i64 (-(v : Int)), .bool true] else .tuple #[.int .i64 0, .bool false]

/-- What Read answers. -/
def readL (l : List Nat) (lo hi : Int) : Int × Nat :=
  let neg := l.getD 0 0 = 45
  let ds := if neg then l.drop 1 else l
  if ¬ PlainL ds ∨ (neg ∧ ds = [48]) then (0, 3)
  else
    let n : Int := if neg then -(dval ds : Int) else dval ds
    if (if neg then dval ds ≤ 9223372036854775808 else dval ds < 9223372036854775808) ∧ lo ≤ n ∧ n ≤ hi then (n, 0) else (0, 4)

theorem natsOf_drop1 (s : ByteArray) : natsOf (s.extract 1 s.size) = (natsOf s).drop 1 := by
  unfold natsOf
  rw [Lib.extract_data]
  have : (s.data.toList.drop 1).length = s.size - 1 := by simp
  rw [List.take_of_length_le (by omega), List.map_drop]
theorem eq_str {s : ByteArray} {l : List UInt8} : (s.toList == l) = decide (natsOf s = l.map UInt8.toNat) := by
  rw [toList_data]
  unfold natsOf
  by_cases h : s.data.toList = l
  · rw [h]; simp
  · have : ¬ s.data.toList.map UInt8.toNat = l.map UInt8.toNat := fun hh => h (List.map_inj_right (fun a b hab => UInt8.toNat_inj.1 hab) |>.1 hh)
    rw [decide_eq_false this]
    simpa using h

end Go.Proofs.Ytlhaepcnhkaclaa

namespace Go.Proofs.Ytlhaepcnhkaclaa
set_option linter.unusedVariables false
open Go Go.RowKit

/-- What is left of a number that is told in chunks of nine digits. -/
theorem chunk_step {part V2 k : Nat} (hk : k < 9) (h : 0 < part ∨ 0 < V2) :
    dig 10 (part + 10 ^ (9 - k) * V2) = part % 10 :: dig 10 (part / 10 + 10 ^ (9 - (k + 1)) * V2) := by
  have e : 10 ^ (9 - k) * V2 = 10 * (10 ^ (9 - (k + 1)) * V2) := by
    rw [show 9 - k = (9 - (k + 1)) + 1 by omega, Nat.pow_succ, Nat.mul_comm (10 ^ (9 - (k + 1))) 10, Nat.mul_assoc]
  have hp : 0 < V2 → 0 < 10 ^ (9 - (k + 1)) * V2 := fun h => Nat.mul_pos (Nat.pow_pos (by decide)) h
  rw [e]
  generalize 10 ^ (9 - (k + 1)) * V2 = P at *
  have hne : part + 10 * P ≠ 0 := by
    rcases h with h | h
    · omega
    · have := hp h; omega
  rw [dig_pos (by decide) hne]
  have e1 : (part + 10 * P) % 10 = part % 10 := by omega
  have e2 : (part + 10 * P) / 10 = part / 10 + P := by omega
  rw [e1, e2]
theorem chunk_end {part V2 : Nat} (h : part < 10 ^ (9 - 9)) : part + 10 ^ (9 - 9) * V2 = V2 := by
  simp at h ⊢
  omega
theorem chunk_lt {part k : Nat} (hk : k < 9) (h : part < 10 ^ (9 - k)) : part / 10 < 10 ^ (9 - (k + 1)) := by
  rw [show 9 - k = (9 - (k + 1)) + 1 by omega, Nat.pow_succ] at h
  exact (Nat.div_lt_iff_lt_mul (by decide)).2 h

theorem dig10_len {n : Nat} {l : List Nat} (hl : Ws l) (hn : l.length ≤ n) : (dig 10 (val B32 l)).length ≤ 10 * n := by
  have h1 := val_lt (B := B32) (by decide) l hl
  have h2 : B32 ^ l.length ≤ B32 ^ n := Nat.pow_le_pow_right (by decide) hn
  have h3 : B32 ^ n ≤ 10 ^ (10 * n) := by
    rw [Nat.pow_mul]
    exact Nat.pow_le_pow_left (by decide) n
  exact dig_len_le (by decide) (by omega)
theorem decD_len' {n : Nat} {l : List Nat} (hl : Ws l) (hn : l.length ≤ n) : (decD (val B32 l)).length ≤ 10 * n + 1 := by
  unfold decD
  split
  · simp
  · rw [List.length_reverse]
    have := dig10_len hl hn
    omega

theorem live_mul : dig B32 (val B32 [4294967295] * val B32 [4294967295]) = [1, 4294967294] := by
  have e : val B32 [4294967295] * val B32 [4294967295] = 18446744065119617025 := by simp [val]
  rw [e, dig_pos B32_two (by decide), dig_pos B32_two (by unfold B32; decide), show 18446744065119617025 / B32 / B32 = 0 by unfold B32; decide, dig_zero]
  unfold B32
  rfl
theorem live_text : decD (val B32 [0, 1]) = [4, 2, 9, 4, 9, 6, 7, 2, 9, 6] := by
  have e : val B32 [0, 1] = 4294967296 := by simp [val, B32]
  rw [e, decD_step (by decide), decD_step (by decide), decD_step (by decide), decD_step (by decide), decD_step (by decide), decD_step (by decide), decD_step (by decide), decD_step (by decide), decD_step (by decide), decD_small (by decide)]
  rfl

end Go.Proofs.Ytlhaepcnhkaclaa

namespace Go.Proofs.Ytlhaepcnhkaclaa
set_option linter.unusedVariables false
open Go Go.RowKit

theorem decD_le9 (m : Nat) : ∀ d ∈ decD m, d ≤ 9 := by
  unfold decD
  split
  · simp
  · intro d hd
    have := dig_lt (B := 10) (by decide) m d (by simpa using hd)
    omega
def dTx (m : Nat) : List Nat := (decD m).map (48 + ·)
theorem natsOf_decS (m : Nat) : natsOf (decS m) = dTx m := by
  unfold natsOf decS decB dTx
  simp only [List.map_map]
  refine List.map_congr_left fun d hd => ?_
  have h := decD_le9 m d hd
  show (UInt8.ofNat (48 + d)).toNat = 48 + d
  rw [UInt8.toNat_ofNat']
  omega
theorem dTx_small {m : Nat} (h : m < 10) : dTx m = [48 + m] := by unfold dTx; rw [decD_small h]; rfl
theorem dTx_step {m : Nat} (h : 10 ≤ m) : dTx m = dTx (m / 10) ++ [48 + m % 10] := by unfold dTx; rw [decD_step h]; simp
theorem dTx_dval (m : Nat) : dval (dTx m) = m := by
  induction m using Nat.strongRecOn with
  | _ m ih =>
    by_cases h : m < 10
    · rw [dTx_small h]; simp [dval]
    · rw [dTx_step (by omega), dval_snoc, ih _ (by omega)]; omega
theorem dTx_ne (m : Nat) : dTx m ≠ [] := by
  by_cases h : m < 10
  · rw [dTx_small h]; simp
  · rw [dTx_step (by omega)]; simp
theorem dTx_head {m : Nat} (h : m ≠ 0) : (dTx m).getD 0 0 ≠ 48 := by
  induction m using Nat.strongRecOn with
  | _ m ih =>
    by_cases h9 : m < 10
    · rw [dTx_small h9]; simp; omega
    · have h1 := ih (m / 10) (by omega) (by omega)
      rw [dTx_step (by omega)]
      cases hd : dTx (m / 10) with
      | nil => exact absurd hd (dTx_ne _)
      | cons x r => rw [hd] at h1; simpa using h1
theorem dTx_at (m : Nat) : ∀ c ∈ dTx m, 48 ≤ c ∧ c ≤ 57 := by
  intro c hc
  unfold dTx at hc
  simp only [List.mem_map] at hc
  obtain ⟨d, hd, rfl⟩ := hc
  have := decD_le9 m d hd
  omega
theorem dTx_plain (m : Nat) : PlainL (dTx m) := by
  refine ⟨dTx_ne m, fun h => ?_, dTx_at m⟩
  by_cases h0 : m = 0
  · rw [h0, dTx_small (by decide)]; simp
  · exact absurd h (dTx_head h0)

end Go.Proofs.Ytlhaepcnhkaclaa

namespace Go.Proofs.Ytlhaepcnhkaclaa
set_option linter.unusedVariables false
open Go Go.RowKit

theorem two {w : World} {g : Nat} {v0 v1 : Value} (h0 : w.cell? ⟨g, 0, none⟩ = some v0) (h1 : w.cell? ⟨g, 1, none⟩ = some v1) :
    ∀ j v, (#[v0, v1] : Array Value).toList[j]? = some v → w.cell? ⟨g, j, none⟩ = some v := by
  intro j v hv
  match j, hv with
  | 0, hv => simp at hv; rw [h0, hv]
  | 1, hv => simp at hv; rw [h1, hv]
  | n + 2, hv => simp at hv

theorem Sl.set {u : World} {a : Option Addr} {n cap : Nat} {k : IntKind} {l : List Nat} (h : Sl u a n cap (ints k l)) {p : Addr} {old : Value} (v : Value) (hp : u.cell? p = some old) (hne : ∀ x, old ≠ .int k x) :
    Sl (u.setCell p v) a n cap (ints k l) := by
  refine ⟨h.1, h.2.1, h.2.2.1, fun h0 => ?_⟩
  obtain ⟨b, off, ha, hc⟩ := h.2.2.2 h0
  refine ⟨b, off, ha, fun i x hx => ?_⟩
  have h1 := hc i x hx
  rw [World.cell?_setCell_other, h1]
  rintro rfl
  rw [hp] at h1
  simp only [ints, List.getElem?_map, Option.map_eq_some_iff] at hx
  obtain ⟨y, _, rfl⟩ := hx
  exact hne _ (Option.some.inj h1)

/-- A sign and a size as a number. -/
def wz (neg : Bool) (m : Nat) : Int := if neg then -(m : Int) else (m : Int)

/-- The call hands back a whole number as no call answers another one. -/
def RetW (w : World) (z : Int) (e : Ending) (w' : World) : Prop :=
  ∃ a n cap, e = .returned (.agg #[.bool (decide (z < 0)), .slice a n cap]) ∧ Sl w' a n cap (ints .u32 (dig B32 z.natAbs)) ∧ Ext w w'

/-- Stored into a block of the call's own. -/
theorem RetW.stored {w u : World} {z : Int} {g : Nat} {b0 : Bool} {a : Option Addr} {n cap x2 x3 : Nat} {x1 : Option Addr} {b : Bool}
    (h0 : u.cell? ⟨g, 0, none⟩ = some (.bool b0)) (h1 : u.cell? ⟨g, 1, none⟩ = some (.slice x1 x2 x3)) (hs : Sl u a n cap (ints .u32 (dig B32 z.natAbs))) (he : Ext w u) (hg : w.heap.size ≤ g) (hb : b = decide (z < 0)) :
    RetW w z (.returned (.agg #[.bool b, .slice a n cap])) ((u.setCell ⟨g, 0, none⟩ (.bool b)).setCell ⟨g, 1, none⟩ (.slice a n cap)) := by
  subst hb
  refine ⟨a, n, cap, rfl, ?_, (he.store hg _).store hg _⟩
  refine (hs.set _ h0 (fun x hx => by cases hx)).set _ (old := .slice x1 x2 x3) ?_ (fun x hx => by cases hx)
  exact (World.cell?_setCell_other u ⟨g, 0, none⟩ ⟨g, 1, none⟩ _ (by simp)).trans h1

theorem dig_len_pos {m : Nat} : 0 < (dig B32 m).length ↔ m ≠ 0 := by
  constructor
  · rintro h rfl; rw [dig_zero] at h; simp at h
  · intro h; rw [dig_pos B32_two h]; simp

set_option maxRecDepth 100000 in
set_option maxHeartbeats 1000000 in
theorem r02_Make_any (neg : Bool) (a : Option Addr) (n cap : Nat) (l : List Nat) (w : World) (hs : Sl w a n cap (ints .u32 l)) (hl : Ws l) (hn : n ≤ 1099511627776) :
    Calls Try.prog 124 #[.bool neg, .slice a n cap] w (RetW w (wz neg (val B32 l))) := by
  have hln := hs.int_len
  have hlb := dig_val_len B32_two l hl
  have hAbs : (wz neg (val B32 l)).natAbs = val B32 l := by unfold wz; split <;> omega
  have hNeg : ∀ n2 : Nat, (dig B32 (val B32 l)).length = n2 → (neg = true ∧ 0 < n2 ↔ wz neg (val B32 l) < 0) := by
    intro n2 h2
    have := @dig_len_pos (val B32 l)
    unfold wz
    cases neg
    · simp
    · simp; omega
  have HNeg := hidP hNeg
  have HA := hidP hAbs
  have HLB := hidP hlb
  clear hNeg hAbs hlb
  go_enter Try.func124, Try.ntmps124
  go_wp2_with fail
  refine (r01_half_any a n cap l _ (hs.ext ((Ext.refl _).alloc _)) hl hn).mono ?_
  rintro e w1 ⟨a1, n1, cap1, rfl, hs1, he1⟩
  have hb1 := half_len hs hl hs1
  clear hln
  go_wp2_with fail
  refine (r01_words_any a1 n1 cap1 _ _ hs1 (Hs.dig _) (by omega)).mono ?_
  rw [val_dig B16_two]
  rintro e w2 ⟨a2, n2, cap2, rfl, hs2, he2⟩
  have HN := hidP (HNeg.out n2 hs2.int_len)
  have he := he1.trans he2
  have z0 := he.cell' (p := ⟨w.heap.size, 0, none⟩) (v := .bool false) (by go_simp; try rfl)
  have q0 : w2.frozen? ⟨w.heap.size, 0, none⟩ = false := (he.frozen (p := ⟨w.heap.size, 0, none⟩) (by simp)).trans (by go_simp)
  have z1 := he.cell' (p := ⟨w.heap.size, 1, none⟩) (v := .slice none 0 0) (by go_simp; try rfl)
  have q1 : w2.frozen? ⟨w.heap.size, 1, none⟩ = false := (he.frozen (p := ⟨w.heap.size, 1, none⟩) (by simp)).trans (by go_simp)
  have HE : Ext w w2 := ((Ext.refl _).alloc _).trans he
  rw [← HA.out] at hs2
  have HS2 := hidP hs2
  have HEE := hidP HE
  clear hs2 hs1 he he1 he2 hb1 HE hs
  cases neg with
  | false =>
    go_wp2_with fail
    refine bodyPost_cells rfl rfl Try.underlying97 rfl (by kernel_rfl) (two (by go_simp; try rfl) (by go_simp; try rfl)) rfl ?_
    exact RetW.stored z0 z1 HS2.out HEE.out (Nat.le_refl _) (by have := HN.out; simp at this; simp; omega)
  | true =>
    by_cases h0 : 0 < n2
    · go_wp2_with fail
      refine bodyPost_cells rfl rfl Try.underlying97 rfl (by kernel_rfl) (two (by go_simp; try rfl) (by go_simp; try rfl)) rfl ?_
      exact RetW.stored z0 z1 HS2.out HEE.out (Nat.le_refl _) (by have := HN.out; simp at this; simp; omega)
    · go_wp2_with fail
      refine bodyPost_cells rfl rfl Try.underlying97 rfl (by kernel_rfl) (two (by go_simp; try rfl) (by go_simp; try rfl)) rfl ?_
      exact RetW.stored z0 z1 HS2.out HEE.out (Nat.le_refl _) (by have := HN.out; simp at this; simp; omega)

/-- A whole number that came in, or was answered. -/
structure WhIn (w : World) (neg : Bool) (a : Option Addr) (n cap : Nat) (z : Int) : Prop where
  sl : ∃ l, Sl w a n cap (ints .u32 l) ∧ Ws l ∧ wz neg (val B32 l) = z
  le : n ≤ 549755813888

theorem wz_canon (z : Int) : wz (decide (z < 0)) z.natAbs = z := by
  unfold wz
  by_cases h : z < 0
  · simp [h]; omega
  · simp [h]; omega

set_option maxRecDepth 100000 in
set_option maxHeartbeats 1000000 in
theorem r02_Of_any (n : Int) (w : World) (h1 : -9223372036854775808 ≤ n) (h2 : n ≤ 9223372036854775807) :
    Calls Try.prog 100 #[.int .i64 n] w (RetW w n) := by
  by_cases h0 : n < 0
  · obtain ⟨m, hm⟩ : ∃ m : Nat, m = (-1 - n).toNat := ⟨_, rfl⟩
    have em : (-1 - n) = (m : Int) := by omega
    have hml : m ≤ 9223372036854775807 := by omega
    have ez : wz true (m + 1) = n := by unfold wz; simp; omega
    have EM := hidP em; have EZ := hidP ez
    clear em ez hm
    go_enter Try.func100, Try.ntmps100
    go_wp2_with fail
    rw [EM.out]
    refine (r01_Of_any m (by omega) _).mono ?_
    rintro e w1 ⟨a1, n1, cap1, rfl, hs1, he1⟩
    have z0 := he1.cell' (p := ⟨w.heap.size, 0, none⟩) (v := .bool false) (by go_simp; try rfl)
    have q0 : w1.frozen? ⟨w.heap.size, 0, none⟩ = false := (he1.frozen (p := ⟨w.heap.size, 0, none⟩) (by simp)).trans (by go_simp)
    have z1 := he1.cell' (p := ⟨w.heap.size, 1, none⟩) (v := .slice none 0 0) (by go_simp; try rfl)
    have q1 : w1.frozen? ⟨w.heap.size, 1, none⟩ = false := (he1.frozen (p := ⟨w.heap.size, 1, none⟩) (by simp)).trans (by go_simp)
    have HE : Ext w w1 := ((Ext.refl _).alloc _).trans he1
    clear he1
    have hn1 : n1 ≤ 2 := by
      have h3 := hs1.int_len
      have h4 : (dig B32 m).length ≤ 2 := dig_len_le B32_two (by unfold B32; omega)
      omega
    go_wp2_with fail
    have hlit := Sl.lit w1 133 #[.int .u32 1] 1 rfl (by omega)
    refine (r01_Add_any a1 _ n1 cap1 1 1 _ [1] _ (hs1.ext ((Ext.refl _).alloc _)) hlit (Ws.dig _) (by intro d hd; simp at hd; subst hd; decide) (by omega) (by omega)).mono ?_
    rw [val_dig B32_two, show val B32 [1] = 1 by simp [val]]
    rintro e w2 ⟨a2, n2, cap2, rfl, hs2, he2⟩
    replace he2 := ((Ext.refl w1).alloc _).trans he2
    have hn2 : n2 ≤ 2 := by
      have h3 := hs2.int_len
      have h4 : (dig B32 (m + 1)).length ≤ 2 := dig_len_le B32_two (by unfold B32; omega)
      omega
    have hgl : w.heap.size < w1.heap.size := World.block_lt_of_cell? w1 _ z0
    replace z0 := he2.cell' z0
    replace z1 := he2.cell' z1
    replace q0 := (he2.frozen (p := ⟨w.heap.size, 0, none⟩) hgl).trans q0
    replace q1 := (he2.frozen (p := ⟨w.heap.size, 1, none⟩) hgl).trans q1
    replace HE := HE.trans he2
    clear he2 hlit hs1 hgl
    go_wp2_with fail
    refine (r02_Make_any true a2 n2 cap2 _ _ hs2 (Ws.dig _) (by omega)).mono ?_
    rw [val_dig B32_two, EZ.out]
    rintro e w3 ⟨a3, n3, cap3, rfl, hs3, he3⟩
    have hgl : w.heap.size < w2.heap.size := World.block_lt_of_cell? w2 _ z0
    replace z0 := he3.cell' z0
    replace z1 := he3.cell' z1
    replace q0 := (he3.frozen (p := ⟨w.heap.size, 0, none⟩) hgl).trans q0
    replace q1 := (he3.frozen (p := ⟨w.heap.size, 1, none⟩) hgl).trans q1
    replace HE := HE.trans he3
    clear he3 hs2 hgl
    go_wp2_with fail
    refine bodyPost_cells rfl rfl Try.underlying97 rfl (by kernel_rfl) (two (by go_simp; try rfl) (by go_simp; try rfl)) rfl ?_
    exact RetW.stored z0 z1 hs3 HE (Nat.le_refl _) (by simp [h0])
  · obtain ⟨m, hm⟩ : ∃ m : Nat, n = (m : Int) := ⟨n.toNat, by omega⟩
    subst hm
    have ez : wz false m = (m : Int) := rfl
    have EZ := hidP ez
    clear ez
    go_enter Try.func100, Try.ntmps100
    go_wp2_with fail
    refine (r01_Of_any m (by omega) _).mono ?_
    rintro e w1 ⟨a1, n1, cap1, rfl, hs1, he1⟩
    have z0 := he1.cell' (p := ⟨w.heap.size, 0, none⟩) (v := .bool false) (by go_simp; try rfl)
    have q0 : w1.frozen? ⟨w.heap.size, 0, none⟩ = false := (he1.frozen (p := ⟨w.heap.size, 0, none⟩) (by simp)).trans (by go_simp)
    have z1 := he1.cell' (p := ⟨w.heap.size, 1, none⟩) (v := .slice none 0 0) (by go_simp; try rfl)
    have q1 : w1.frozen? ⟨w.heap.size, 1, none⟩ = false := (he1.frozen (p := ⟨w.heap.size, 1, none⟩) (by simp)).trans (by go_simp)
    have HE : Ext w w1 := ((Ext.refl _).alloc _).trans he1
    clear he1
    have hn1 : n1 ≤ 2 := by
      have h3 := hs1.int_len
      have h4 : (dig B32 m).length ≤ 2 := dig_len_le B32_two (by unfold B32; omega)
      omega
    go_wp2_with fail
    refine (r02_Make_any false a1 n1 cap1 _ _ hs1 (Ws.dig _) (by omega)).mono ?_
    rw [val_dig B32_two, EZ.out]
    rintro e w3 ⟨a3, n3, cap3, rfl, hs3, he3⟩
    have hgl : w.heap.size < w1.heap.size := World.block_lt_of_cell? w1 _ z0
    replace z0 := he3.cell' z0
    replace z1 := he3.cell' z1
    replace q0 := (he3.frozen (p := ⟨w.heap.size, 0, none⟩) hgl).trans q0
    replace q1 := (he3.frozen (p := ⟨w.heap.size, 1, none⟩) hgl).trans q1
    replace HE := HE.trans he3
    clear he3 hs1 hgl
    go_wp2_with fail
    refine bodyPost_cells rfl rfl Try.underlying97 rfl (by kernel_rfl) (two (by go_simp; try rfl) (by go_simp; try rfl)) rfl ?_
    exact RetW.stored z0 z1 hs3 HE (Nat.le_refl _) (by simp)

/-- The sign of a number. -/
def sgn (z : Int) : Int := if z = 0 then 0 else if z < 0 then -1 else 1

set_option maxRecDepth 100000 in
set_option maxHeartbeats 1000000 in
theorem r02_Sign_any (neg : Bool) (a : Option Addr) (n cap : Nat) (z : Int) (w : World) (hw : WhIn w neg a n cap z) :
    Calls Try.prog 127 #[.agg #[.bool neg, .slice a n cap]] w fun e w' => e = .returned (.int .i64 (sgn z)) ∧ Ext w w' := by
  obtain ⟨⟨l, hs, hl, hz⟩, hn⟩ := hw
  by_cases h0 : val B32 l = 0
  · have HR : Hid (sgn z = 0) := hidP (by subst hz; unfold wz sgn; rw [h0]; cases neg <;> rfl)
    have HB : Hid (bitlen (val B32 l) = 0) := hidP (by rw [h0]; rfl)
    clear hz h0
    go_enter Try.func127, Try.ntmps127
    go_wp2_with fail
    refine (r01_Bits_any a n cap l _ (hs.ext ((Ext.refl _).alloc _)) hl (by omega)).mono ?_
    rw [HB.out]
    rintro e w1 ⟨rfl, he1⟩
    go_wp2_with fail
    go_ret
    exact ⟨by rw [HR.out]; rfl, ((Ext.refl _).alloc _).trans he1⟩
  · have HR : Hid (sgn z = if neg then -1 else 1) := hidP (by subst hz; unfold wz sgn; cases neg <;> simp <;> omega)
    have hbz : bitlen (val B32 l) ≠ 0 := fun h => by
      have := lt_bitlen (val B32 l)
      rw [h] at this
      omega
    have hB : ((bitlen (val B32 l) : Int) == 0) = false := by simp; omega
    have HZ := hidP hz
    have hH := r01_Bits_any a n cap l
    clear hz h0 hbz
    generalize bitlen (val B32 l) = bl at *
    cases neg with
    | false =>
      go_enter Try.func127, Try.ntmps127
      go_wp2_with fail
      refine (hH _ (hs.ext ((Ext.refl _).alloc _)) hl (by omega)).mono ?_
      rintro e w1 ⟨rfl, he1⟩
      have z0 := he1.cell' (p := ⟨w.heap.size, 0, none⟩) (v := .bool false) (by go_simp; try rfl)
      clear hH
      go_wp2_with fail
      go_ret
      exact ⟨by rw [HR.out]; rfl, ((Ext.refl _).alloc _).trans he1⟩
    | true =>
      go_enter Try.func127, Try.ntmps127
      go_wp2_with fail
      refine (hH _ (hs.ext ((Ext.refl _).alloc _)) hl (by omega)).mono ?_
      rintro e w1 ⟨rfl, he1⟩
      have z0 := he1.cell' (p := ⟨w.heap.size, 0, none⟩) (v := .bool true) (by go_simp; try rfl)
      clear hH
      go_wp2_with fail
      go_ret
      exact ⟨by rw [HR.out]; rfl, ((Ext.refl _).alloc _).trans he1⟩

theorem RetW.whIn {w w' : World} {z : Int} {e : Ending} (h : RetW w z e w') (hn : (dig B32 z.natAbs).length ≤ 549755813888) :
    ∃ a n cap, e = .returned (.agg #[.bool (decide (z < 0)), .slice a n cap]) ∧ WhIn w' (decide (z < 0)) a n cap z ∧ Sl w' a n cap (ints .u32 (dig B32 z.natAbs)) ∧ Ext w w' := by
  obtain ⟨a, n, cap, rfl, hs, he⟩ := h
  have h2 := hs.int_len
  exact ⟨a, n, cap, rfl, ⟨⟨_, hs, Ws.dig _, by rw [val_dig B32_two]; exact wz_canon z⟩, by omega⟩, hs, he⟩
theorem WhIn.ext {w u : World} {neg : Bool} {a : Option Addr} {n cap : Nat} {z : Int} (h : WhIn w neg a n cap z) (he : Ext w u) : WhIn u neg a n cap z :=
  let ⟨⟨l, h1, h2, h3⟩, h4⟩ := h; ⟨⟨l, h1.ext he, h2, h3⟩, h4⟩

end Go.Proofs.Ytlhaepcnhkaclaa

namespace Go.Proofs.Ytlhaepcnhkaclaa
set_option linter.unusedVariables false
open Go Go.RowKit

theorem wz_not (neg : Bool) (m : Nat) : wz (!neg) m = -wz neg m := by unfold wz; cases neg <;> simp

set_option maxRecDepth 100000 in
set_option maxHeartbeats 1000000 in
theorem r02_Neg_any (neg : Bool) (a : Option Addr) (n cap : Nat) (z : Int) (w : World) (hw : WhIn w neg a n cap z) :
    Calls Try.prog 123 #[.agg #[.bool neg, .slice a n cap]] w (RetW w (-z)) := by
  obtain ⟨⟨l, hs, hl, hz⟩, hn⟩ := hw
  have hzz : wz (!neg) (val B32 l) = -z := by rw [wz_not, hz]
  have HZ := hidP hzz
  clear hz hzz
  go_enter Try.func123, Try.ntmps123
  go_wp2_with fail
  refine (r02_Make_any (!neg) a n cap l _ (hs.ext (((Ext.refl _).alloc _).alloc _)) hl (by omega)).mono ?_
  rw [HZ.out]
  rintro e w1 ⟨a1, n1, cap1, rfl, hs1, he1⟩
  have z0 := he1.cell' (p := ⟨w.heap.size + 1, 0, none⟩) (v := .bool false) (by go_simp; try rfl)
  have qz0 : w1.frozen? ⟨w.heap.size + 1, 0, none⟩ = false := (he1.frozen (p := ⟨w.heap.size + 1, 0, none⟩) (by simp)).trans (by go_simp)
  have z1 := he1.cell' (p := ⟨w.heap.size + 1, 1, none⟩) (v := .slice none 0 0) (by go_simp; try rfl)
  have qz1 : w1.frozen? ⟨w.heap.size + 1, 1, none⟩ = false := (he1.frozen (p := ⟨w.heap.size + 1, 1, none⟩) (by simp)).trans (by go_simp)
  have HE : Ext w w1 := (((Ext.refl _).alloc _).alloc _).trans he1
  clear he1
  go_wp2_with fail
  refine bodyPost_cells rfl rfl Try.underlying97 rfl (by kernel_rfl) (two (by go_simp; try rfl) (by go_simp; try rfl)) rfl ?_
  exact RetW.stored z0 z1 hs1 HE (Nat.le_succ _) (by simp)

theorem add_same {b : Bool} {x y : Nat} : wz b (x + y) = wz b x + wz b y := by unfold wz; cases b <;> simp <;> omega
theorem add_other {b b' : Bool} {x y : Nat} (hb : b ≠ b') (h : y ≤ x) : wz b (x - y) = wz b x + wz b' y := by
  unfold wz
  cases b <;> cases b' <;> simp at hb <;> simp <;> omega
theorem add_other' {b b' : Bool} {x y : Nat} (hb : b ≠ b') (h : x ≤ y) : wz b' (y - x) = wz b x + wz b' y := by
  unfold wz
  cases b <;> cases b' <;> simp at hb <;> simp <;> omega
theorem dig_add_len (x y : List Nat) (hx : Ws x) (hy : Ws y) (N : Nat) (h1 : x.length ≤ N) (h2 : y.length ≤ N) : (dig B32 (val B32 x + val B32 y)).length ≤ N + 1 := by
  have a1 := val_lt (B := B32) (by decide) x hx
  have a2 := val_lt (B := B32) (by decide) y hy
  have b1 : B32 ^ x.length ≤ B32 ^ N := Nat.pow_le_pow_right (by decide) h1
  have b2 : B32 ^ y.length ≤ B32 ^ N := Nat.pow_le_pow_right (by decide) h2
  refine dig_len_le B32_two ?_
  rw [Nat.pow_succ]
  have : B32 ^ N * 2 ≤ B32 ^ N * B32 := Nat.mul_le_mul_left _ B32_two
  omega

set_option maxRecDepth 100000 in
set_option maxHeartbeats 4000000 in
theorem r02_Add_any (neg neg' : Bool) (a a' : Option Addr) (n cap n' cap' : Nat) (z z' : Int) (w : World) (hw : WhIn w neg a n cap z) (hw' : WhIn w neg' a' n' cap' z') :
    Calls Try.prog 122 #[.agg #[.bool neg, .slice a n cap], .agg #[.bool neg', .slice a' n' cap']] w (RetW w (z + z')) := by
  obtain ⟨⟨l, hs, hl, hz⟩, hn⟩ := hw
  obtain ⟨⟨l', hs', hl', hz'⟩, hn'⟩ := hw'
  have hln := hs.int_len
  have hln' := hs'.int_len
  have HS := hidP hs; have HS' := hidP hs'
  clear hs hs'
  by_cases hb : neg = neg'
  · subst hb
    have hzz : wz neg (val B32 l + val B32 l') = z + z' := by rw [add_same, hz, hz']
    have hlen := dig_add_len l l' hl hl' 549755813888 (by omega) (by omega)
    have HZ := hidP hzz; have HLEN := hidP hlen
    clear hz hz' hzz hlen hln hln'
    go_enter Try.func122, Try.ntmps122
    go_upto_region 2 with fail
    obtain ⟨w0, hw0⟩ : ∃ w0 : World, w0 = World.drew (((w.alloc (.cells #[.bool neg, .slice a n cap] 97)).alloc (.cells #[.bool neg, .slice a' n' cap'] 97)).alloc (.cells #[.bool false, .slice none 0 0] 97)) := ⟨_, rfl⟩
    have c0 : w0.cell? ⟨w.heap.size, 0, none⟩ = some (.bool neg) := by rw [hw0]; go_simp; try rfl
    have c1 : w0.cell? ⟨w.heap.size, 1, none⟩ = some (.slice a n cap) := by rw [hw0]; go_simp; try rfl
    have d0 : w0.cell? ⟨w.heap.size + 1, 0, none⟩ = some (.bool neg) := by rw [hw0]; go_simp; try rfl
    have d1 : w0.cell? ⟨w.heap.size + 1, 1, none⟩ = some (.slice a' n' cap') := by rw [hw0]; go_simp; try rfl
    have z0 : w0.cell? ⟨w.heap.size + 1 + 1, 0, none⟩ = some (.bool false) := by rw [hw0]; go_simp; try rfl
    have qz0 : w0.frozen? ⟨w.heap.size + 1 + 1, 0, none⟩ = false := by rw [hw0]; go_simp; try rfl
    have z1 : w0.cell? ⟨w.heap.size + 1 + 1, 1, none⟩ = some (.slice none 0 0) := by rw [hw0]; go_simp; try rfl
    have qz1 : w0.frozen? ⟨w.heap.size + 1 + 1, 1, none⟩ = false := by rw [hw0]; go_simp; try rfl
    have HE : Ext w w0 := by rw [hw0]; exact ((((Ext.refl _).alloc _).alloc _).alloc _).drew
    refine wp_region_plan (R := Ext) (.q 0 (.q 1 (.q 2 (.q 3 (.q 4 (.q 5 (.l 6 (.l 7 (.b 8 .done))))))))) (by kernel_rfl) (by kernel_rfl) (by kernel_rfl) (by kernel_rfl) Ext.refl (fun _ _ _ => Ext.trans) ?_
    rw [← hw0]
    clear hw0
    repeat (refine wpE_q (v := ?_) rfl rfl (fun u hu => ?_) ?_; rotate_left 1; (focus ((have k0 := hu.cell' c0; have k1 := hu.cell' c1; have k2 := hu.cell' d0; have k3 := hu.cell' d1); go_simp; (try rfl))); simp only [Act.put, List.setIfInBounds_toArray, List.set_cons_zero, List.set_cons_succ])
    refine wpE_l rfl rfl (fun K hK => ?_)
    go_simp
    refine (r01_Add_any a a' n cap n' cap' l l' _ (HS.out.ext HE) (HS'.out.ext HE) hl hl' (by omega) (by omega)).mono ?_
    rintro e w1 ⟨a1, n1, cap1, rfl, hs1, he1⟩
    refine hK.out _ _ he1 ?_
    clear hK K
    have hgl : w.heap.size + 1 + 1 < w0.heap.size := World.block_lt_of_cell? w0 _ z0
    replace z0 := he1.cell' z0
    replace z1 := he1.cell' z1
    replace qz0 := (he1.frozen (p := ⟨w.heap.size + 1 + 1, 0, none⟩) hgl).trans qz0
    replace qz1 := (he1.frozen (p := ⟨w.heap.size + 1 + 1, 1, none⟩) hgl).trans qz1
    clear c0 c1 d0 d1
    replace HE := HE.trans he1
    clear he1 hgl
    try simp only [Act.put, List.setIfInBounds_toArray, List.set_cons_zero, List.set_cons_succ]
    refine wpE_l rfl rfl (fun K hK => ?_)
    go_simp
    refine (r02_Make_any neg a1 n1 cap1 _ _ hs1 (Ws.dig _) (by have h3 := hs1.int_len; have h4 := HLEN.out; omega)).mono ?_
    rw [val_dig B32_two, HZ.out]
    rintro e w2 ⟨a2, n2, cap2, rfl, hs2, he2⟩
    refine hK.out _ _ he2 ?_
    clear hK K
    have hgl : w.heap.size + 1 + 1 < w1.heap.size := World.block_lt_of_cell? w1 _ z0
    replace z0 := he2.cell' z0
    replace z1 := he2.cell' z1
    replace qz0 := (he2.frozen (p := ⟨w.heap.size + 1 + 1, 0, none⟩) hgl).trans qz0
    replace qz1 := (he2.frozen (p := ⟨w.heap.size + 1 + 1, 1, none⟩) hgl).trans qz1
    replace HE := HE.trans he2
    clear he2 hgl hs1
    try simp only [Act.put, List.setIfInBounds_toArray, List.set_cons_zero, List.set_cons_succ]
    refine wpE_b rfl rfl (fun K hK => ?_)
    go_simp
    refine hK.out _ _ ?_
    clear hK K
    try simp only [Act.put, List.setIfInBounds_toArray, List.set_cons_zero, List.set_cons_succ]
    refine wpE_done ?_
    go_wp2_with fail
    refine bodyPost_cells rfl rfl Try.underlying97 rfl (by kernel_rfl) (two (by go_simp; try rfl) (by go_simp; try rfl)) rfl ?_
    exact RetW.stored z0 z1 hs2 HE (by omega) rfl
  · have hbe : (neg == neg') = false := by simpa using hb
    have HB := hidP hb
    clear hb
    by_cases hc : val B32 l' ≤ val B32 l
    · have hzz : wz neg (val B32 l - val B32 l') = z + z' := by rw [add_other HB.out hc, hz, hz']
      have hlen : (dig B32 (val B32 l - val B32 l')).length ≤ n := by
        have h1 := dig_mono B32_two (Nat.sub_le (val B32 l) (val B32 l'))
        have h2 := dig_val_len B32_two l hl
        omega
      have hcm : (0 : Int) ≤ cmpI (val B32 l) (val B32 l') := cmpI_ge hc
      have HZ := hidP hzz; have HLEN := hidP hlen
      generalize hcc : cmpI (val B32 l) (val B32 l') = cc at *
      have HCC := hidP hcc; clear hcc
      clear hz hz' hzz hlen hln hln' hc
      go_enter Try.func122, Try.ntmps122
      go_wp2_with fail
      refine (r01_Cmp_any a a' n cap n' cap' l l' _ (HS.out.ext ((((Ext.refl _).alloc _).alloc _).alloc _)) (HS'.out.ext ((((Ext.refl _).alloc _).alloc _).alloc _)) hl hl' (by omega) (by omega)).mono ?_
      rw [HCC.out]
      rintro e w1 ⟨rfl, he1⟩
      have c0 := he1.cell' (p := ⟨w.heap.size, 0, none⟩) (v := .bool neg) (by go_simp; try rfl)
      have c1 := he1.cell' (p := ⟨w.heap.size, 1, none⟩) (v := .slice a n cap) (by go_simp; try rfl)
      have d0 := he1.cell' (p := ⟨w.heap.size + 1, 0, none⟩) (v := .bool neg') (by go_simp; try rfl)
      have d1 := he1.cell' (p := ⟨w.heap.size + 1, 1, none⟩) (v := .slice a' n' cap') (by go_simp; try rfl)
      have z0 := he1.cell' (p := ⟨w.heap.size + 1 + 1, 0, none⟩) (v := .bool false) (by go_simp; try rfl)
      have qz0 : w1.frozen? ⟨w.heap.size + 1 + 1, 0, none⟩ = false := (he1.frozen (p := ⟨w.heap.size + 1 + 1, 0, none⟩) (by simp)).trans (by go_simp)
      have z1 := he1.cell' (p := ⟨w.heap.size + 1 + 1, 1, none⟩) (v := .slice none 0 0) (by go_simp; try rfl)
      have qz1 : w1.frozen? ⟨w.heap.size + 1 + 1, 1, none⟩ = false := (he1.frozen (p := ⟨w.heap.size + 1 + 1, 1, none⟩) (by simp)).trans (by go_simp)
      have HE : Ext w w1 := ((((Ext.refl _).alloc _).alloc _).alloc _).trans he1
      clear he1
      go_wp2_with fail
      refine (r01_Sub_any a a' n cap n' cap' l l' _ (HS.out.ext HE) (HS'.out.ext HE) hl hl' (by omega) (by omega)).mono ?_
      rintro e w2 ⟨a2, n2, cap2, rfl, hs2, he2⟩
      replace qz0 := (he2.frozen (p := ⟨w.heap.size + 1 + 1, 0, none⟩) (World.block_lt_of_cell? w1 _ z0)).trans qz0
      replace qz1 := (he2.frozen (p := ⟨w.heap.size + 1 + 1, 1, none⟩) (World.block_lt_of_cell? w1 _ z1)).trans qz1
      replace c0 := he2.cell' c0
      replace c1 := he2.cell' c1
      replace d0 := he2.cell' d0
      replace d1 := he2.cell' d1
      replace z0 := he2.cell' z0
      replace z1 := he2.cell' z1
      replace HE := HE.trans he2
      clear he2
      have hn2 : n2 ≤ 549755813888 := by have h3 := hs2.int_len; have h4 := HLEN.out; omega
      generalize decide (val B32 l' ≤ val B32 l) = okb at *
      go_wp2_with fail
      refine (r02_Make_any neg a2 n2 cap2 _ _ hs2 (Ws.dig _) (by omega)).mono ?_
      rw [val_dig B32_two, HZ.out]
      rintro e w3 ⟨a3, n3, cap3, rfl, hs3, he3⟩
      replace qz0 := (he3.frozen (p := ⟨w.heap.size + 1 + 1, 0, none⟩) (World.block_lt_of_cell? w2 _ z0)).trans qz0
      replace qz1 := (he3.frozen (p := ⟨w.heap.size + 1 + 1, 1, none⟩) (World.block_lt_of_cell? w2 _ z1)).trans qz1
      replace c0 := he3.cell' c0
      replace c1 := he3.cell' c1
      replace d0 := he3.cell' d0
      replace d1 := he3.cell' d1
      replace z0 := he3.cell' z0
      replace z1 := he3.cell' z1
      replace HE := HE.trans he3
      clear he3 hs2
      go_wp2_with fail
      refine bodyPost_cells rfl rfl Try.underlying97 rfl (by kernel_rfl) (two (by go_simp; try rfl) (by go_simp; try rfl)) rfl ?_
      exact RetW.stored z0 z1 hs3 HE (by omega) rfl
    · have hlt : val B32 l < val B32 l' := by omega
      have hzz : wz neg' (val B32 l' - val B32 l) = z + z' := by rw [add_other' HB.out (Nat.le_of_lt hlt), hz, hz']
      have hlen : (dig B32 (val B32 l' - val B32 l)).length ≤ n' := by
        have h1 := dig_mono B32_two (Nat.sub_le (val B32 l') (val B32 l))
        have h2 := dig_val_len B32_two l' hl'
        omega
      have hcm : cmpI (val B32 l) (val B32 l') = -1 := cmpI_lt hlt
      have HZ := hidP hzz; have HLEN := hidP hlen
      have HCC := hidP hcm; clear hcm
      clear hz hz' hzz hlen hln hln' hc hlt
      go_enter Try.func122, Try.ntmps122
      go_wp2_with fail
      refine (r01_Cmp_any a a' n cap n' cap' l l' _ (HS.out.ext ((((Ext.refl _).alloc _).alloc _).alloc _)) (HS'.out.ext ((((Ext.refl _).alloc _).alloc _).alloc _)) hl hl' (by omega) (by omega)).mono ?_
      rw [HCC.out]
      rintro e w1 ⟨rfl, he1⟩
      have c0 := he1.cell' (p := ⟨w.heap.size, 0, none⟩) (v := .bool neg) (by go_simp; try rfl)
      have c1 := he1.cell' (p := ⟨w.heap.size, 1, none⟩) (v := .slice a n cap) (by go_simp; try rfl)
      have d0 := he1.cell' (p := ⟨w.heap.size + 1, 0, none⟩) (v := .bool neg') (by go_simp; try rfl)
      have d1 := he1.cell' (p := ⟨w.heap.size + 1, 1, none⟩) (v := .slice a' n' cap') (by go_simp; try rfl)
      have z0 := he1.cell' (p := ⟨w.heap.size + 1 + 1, 0, none⟩) (v := .bool false) (by go_simp; try rfl)
      have qz0 : w1.frozen? ⟨w.heap.size + 1 + 1, 0, none⟩ = false := (he1.frozen (p := ⟨w.heap.size + 1 + 1, 0, none⟩) (by simp)).trans (by go_simp)
      have z1 := he1.cell' (p := ⟨w.heap.size + 1 + 1, 1, none⟩) (v := .slice none 0 0) (by go_simp; try rfl)
      have qz1 : w1.frozen? ⟨w.heap.size + 1 + 1, 1, none⟩ = false := (he1.frozen (p := ⟨w.heap.size + 1 + 1, 1, none⟩) (by simp)).trans (by go_simp)
      have HE : Ext w w1 := ((((Ext.refl _).alloc _).alloc _).alloc _).trans he1
      clear he1
      go_wp2_with fail
      refine (r01_Sub_any a' a n' cap' n cap l' l _ (HS'.out.ext HE) (HS.out.ext HE) hl' hl (by omega) (by omega)).mono ?_
      rintro e w2 ⟨a2, n2, cap2, rfl, hs2, he2⟩
      replace qz0 := (he2.frozen (p := ⟨w.heap.size + 1 + 1, 0, none⟩) (World.block_lt_of_cell? w1 _ z0)).trans qz0
      replace qz1 := (he2.frozen (p := ⟨w.heap.size + 1 + 1, 1, none⟩) (World.block_lt_of_cell? w1 _ z1)).trans qz1
      replace c0 := he2.cell' c0
      replace c1 := he2.cell' c1
      replace d0 := he2.cell' d0
      replace d1 := he2.cell' d1
      replace z0 := he2.cell' z0
      replace z1 := he2.cell' z1
      replace HE := HE.trans he2
      clear he2
      have hn2 : n2 ≤ 549755813888 := by have h3 := hs2.int_len; have h4 := HLEN.out; omega
      generalize decide (val B32 l ≤ val B32 l') = okb at *
      go_wp2_with fail
      refine (r02_Make_any neg' a2 n2 cap2 _ _ hs2 (Ws.dig _) (by omega)).mono ?_
      rw [val_dig B32_two, HZ.out]
      rintro e w3 ⟨a3, n3, cap3, rfl, hs3, he3⟩
      replace qz0 := (he3.frozen (p := ⟨w.heap.size + 1 + 1, 0, none⟩) (World.block_lt_of_cell? w2 _ z0)).trans qz0
      replace qz1 := (he3.frozen (p := ⟨w.heap.size + 1 + 1, 1, none⟩) (World.block_lt_of_cell? w2 _ z1)).trans qz1
      replace c0 := he3.cell' c0
      replace c1 := he3.cell' c1
      replace d0 := he3.cell' d0
      replace d1 := he3.cell' d1
      replace z0 := he3.cell' z0
      replace z1 := he3.cell' z1
      replace HE := HE.trans he3
      clear he3 hs2
      go_wp2_with fail
      refine bodyPost_cells rfl rfl Try.underlying97 rfl (by kernel_rfl) (two (by go_simp; try rfl) (by go_simp; try rfl)) rfl ?_
      exact RetW.stored z0 z1 hs3 HE (by omega) rfl

end Go.Proofs.Ytlhaepcnhkaclaa

namespace Go.Proofs.Ytlhaepcnhkaclaa
set_option linter.unusedVariables false
open Go Go.RowKit

theorem natAbs_len {z : Int} {N : Nat} (h : z.natAbs < B32 ^ N) : (dig B32 z.natAbs).length ≤ N := dig_len_le B32_two h
theorem WhIn.lt {w : World} {neg : Bool} {a : Option Addr} {n cap : Nat} {z : Int} (h : WhIn w neg a n cap z) : z.natAbs < B32 ^ n := by
  obtain ⟨⟨l, hs, hl, hz⟩, hn⟩ := h
  have := val_lt (B := B32) (by decide) l hl
  rw [hs.int_len] at this
  have h2 : z.natAbs = val B32 l := by rw [← hz]; unfold wz; split <;> omega
  rw [h2]; exact this

set_option maxRecDepth 100000 in
set_option maxHeartbeats 2000000 in
theorem r02_Sub_any (neg neg' : Bool) (a a' : Option Addr) (n cap n' cap' : Nat) (z z' : Int) (w : World) (hw : WhIn w neg a n cap z) (hw' : WhIn w neg' a' n' cap' z') :
    Calls Try.prog 137 #[.agg #[.bool neg, .slice a n cap], .agg #[.bool neg', .slice a' n' cap']] w (RetW w (z - z')) := by
  have hN : (dig B32 (-z').natAbs).length ≤ 549755813888 := by
    have h1 := hw'.lt
    have h2 := natAbs_len (z := -z') (N := n') (by simpa using h1)
    have := hw'.le
    omega
  have HN := hidP hN
  have HW := hidP hw; have HW' := hidP hw'
  clear hN hw hw'
  go_enter Try.func137, Try.ntmps137
  go_upto_region 1 with fail
  obtain ⟨w0, hw0⟩ : ∃ w0 : World, w0 = World.drew (((w.alloc (.cells #[.bool neg, .slice a n cap] 97)).alloc (.cells #[.bool neg', .slice a' n' cap'] 97)).alloc (.cells #[.bool false, .slice none 0 0] 97)) := ⟨_, rfl⟩
  have c0 : w0.cell? ⟨w.heap.size, 0, none⟩ = some (.bool neg) := by rw [hw0]; go_simp; try rfl
  have c1 : w0.cell? ⟨w.heap.size, 1, none⟩ = some (.slice a n cap) := by rw [hw0]; go_simp; try rfl
  have d0 : w0.cell? ⟨w.heap.size + 1, 0, none⟩ = some (.bool neg') := by rw [hw0]; go_simp; try rfl
  have d1 : w0.cell? ⟨w.heap.size + 1, 1, none⟩ = some (.slice a' n' cap') := by rw [hw0]; go_simp; try rfl
  have z0 : w0.cell? ⟨w.heap.size + 1 + 1, 0, none⟩ = some (.bool false) := by rw [hw0]; go_simp; try rfl
  have qz0 : w0.frozen? ⟨w.heap.size + 1 + 1, 0, none⟩ = false := by rw [hw0]; go_simp; try rfl
  have z1 : w0.cell? ⟨w.heap.size + 1 + 1, 1, none⟩ = some (.slice none 0 0) := by rw [hw0]; go_simp; try rfl
  have qz1 : w0.frozen? ⟨w.heap.size + 1 + 1, 1, none⟩ = false := by rw [hw0]; go_simp; try rfl
  have HE : Ext w w0 := by rw [hw0]; exact ((((Ext.refl _).alloc _).alloc _).alloc _).drew
  refine wp_region_plan (R := Ext) (.q 0 (.q 1 (.l 2 (.l 3 (.b 4 .done))))) (by kernel_rfl) (by kernel_rfl) (by kernel_rfl) (by kernel_rfl) Ext.refl (fun _ _ _ => Ext.trans) ?_
  rw [← hw0]
  clear hw0
  repeat (refine wpE_q (v := ?_) rfl rfl (fun u hu => ?_) ?_; rotate_left 1; (focus ((have k0 := hu.cell' c0; have k1 := hu.cell' c1; have k2 := hu.cell' d0; have k3 := hu.cell' d1); go_simp; (try rfl))); simp only [Act.put, List.setIfInBounds_toArray, List.set_cons_zero, List.set_cons_succ])
  refine wpE_l rfl rfl (fun K hK => ?_)
  go_simp
  refine (r02_Neg_any neg' a' n' cap' z' _ (HW'.out.ext HE)).mono ?_
  rintro e w1 h1
  obtain ⟨a1, n1, cap1, rfl, hw1, hs1, he1⟩ := h1.whIn HN.out
  clear h1
  generalize decide (-z' < 0) = nb at *
  refine hK.out _ _ he1 ?_
  clear hK K hs1
  have hgl : w.heap.size + 1 + 1 < w0.heap.size := World.block_lt_of_cell? w0 _ z0
  replace z0 := he1.cell' z0
  replace qz0 := (he1.frozen (p := ⟨w.heap.size + 1 + 1, 0, none⟩) hgl).trans qz0
  replace z1 := he1.cell' z1
  replace qz1 := (he1.frozen (p := ⟨w.heap.size + 1 + 1, 1, none⟩) hgl).trans qz1
  clear hgl
  clear c0 c1 d0 d1
  replace HE := HE.trans he1
  clear he1
  try simp only [Act.put, List.setIfInBounds_toArray, List.set_cons_zero, List.set_cons_succ]
  refine wpE_l rfl rfl (fun K hK => ?_)
  go_simp
  refine (r02_Add_any neg nb a a1 n cap n1 cap1 z (-z') _ (HW.out.ext HE) hw1).mono ?_
  rintro e w2 ⟨a2, n2, cap2, rfl, hs2, he2⟩
  refine hK.out _ _ he2 ?_
  clear hK K
  have hgl : w.heap.size + 1 + 1 < w1.heap.size := World.block_lt_of_cell? w1 _ z0
  replace z0 := he2.cell' z0
  replace qz0 := (he2.frozen (p := ⟨w.heap.size + 1 + 1, 0, none⟩) hgl).trans qz0
  replace z1 := he2.cell' z1
  replace qz1 := (he2.frozen (p := ⟨w.heap.size + 1 + 1, 1, none⟩) hgl).trans qz1
  clear hgl
  replace HE := HE.trans he2
  clear he2 hw1
  try simp only [Act.put, List.setIfInBounds_toArray, List.set_cons_zero, List.set_cons_succ]
  refine wpE_b rfl rfl (fun K hK => ?_)
  go_simp
  refine hK.out _ _ ?_
  clear hK K
  try simp only [Act.put, List.setIfInBounds_toArray, List.set_cons_zero, List.set_cons_succ]
  refine wpE_done ?_
  go_wp2_with fail
  refine bodyPost_cells rfl rfl Try.underlying97 rfl (by kernel_rfl) (two (by go_simp; try rfl) (by go_simp; try rfl)) rfl ?_
  exact RetW.stored z0 z1 hs2 HE (by omega) rfl

set_option maxRecDepth 100000 in
set_option maxHeartbeats 1000000 in
theorem r02_Cmp_any (neg neg' : Bool) (a a' : Option Addr) (n cap n' cap' : Nat) (z z' : Int) (w : World) (hw : WhIn w neg a n cap z) (hw' : WhIn w neg' a' n' cap' z') (hb : (dig B32 (z - z').natAbs).length ≤ 549755813888) :
    Calls Try.prog 120 #[.agg #[.bool neg, .slice a n cap], .agg #[.bool neg', .slice a' n' cap']] w fun e w' => e = .returned (.int .i64 (sgn (z - z'))) ∧ Ext w w' := by
  have HB := hidP hb
  clear hb
  go_enter Try.func120, Try.ntmps120
  go_wp2_with fail
  refine (r02_Sub_any neg neg' a a' n cap n' cap' z z' _ (hw.ext (((Ext.refl _).alloc _).alloc _)) (hw'.ext (((Ext.refl _).alloc _).alloc _))).mono ?_
  rintro e w1 h1
  obtain ⟨a1, n1, cap1, rfl, hw1, hs1, he1⟩ := h1.whIn HB.out
  have HE : Ext w w1 := (((Ext.refl _).alloc _).alloc _).trans he1
  clear h1 hs1 he1
  generalize decide (z - z' < 0) = nb at *
  go_wp2_with fail
  refine (r02_Sign_any _ a1 n1 cap1 _ _ hw1).mono ?_
  rintro e w2 ⟨rfl, he2⟩
  go_wp2_with fail
  go_ret
  exact ⟨rfl, HE.trans he2⟩

end Go.Proofs.Ytlhaepcnhkaclaa

namespace Go.Proofs.Ytlhaepcnhkaclaa
set_option linter.unusedVariables false
open Go Go.RowKit

/-- What Parse answers: a number's words, 3: it is none, 4: too long. -/
def ParseR (w : World) (l : List Nat) (e : Ending) (w' : World) : Prop :=
  (2000 < l.length ∧ e = .returned (.tuple #[.slice none 0 0, .int .i64 4]) ∧ Ext w w') ∨
  (l.length ≤ 2000 ∧ ¬ PlainL l ∧ e = .returned (.tuple #[.slice none 0 0, .int .i64 3]) ∧ Ext w w') ∨
  (l.length ≤ 2000 ∧ PlainL l ∧ ∃ a n cap, e = .returned (.tuple #[.slice a n cap, .int .i64 0]) ∧ Sl w' a n cap (ints .u32 (dig B32 (dval l))) ∧ Ext w w')

theorem dval_lt (l : List Nat) (h : ∀ c ∈ l, c ≤ 57) : dval l < B32 ^ l.length := by
  have : ∀ (l : List Nat), (∀ c ∈ l, c ≤ 57) → ∀ a m : Nat, a < B32 ^ m → l.foldl (fun a c => 10 * a + (c - 48)) a < B32 ^ (m + l.length) := by
    intro l
    induction l with
    | nil => intro _ a m ha; simpa using ha
    | cons c r ih =>
      intro h a m ha
      have hc := h c (by simp)
      have h2 : 10 * a + (c - 48) < B32 ^ (m + 1) := by
        rw [Nat.pow_succ]
        have : B32 ^ m * 20 ≤ B32 ^ m * B32 := Nat.mul_le_mul_left _ (by unfold B32; omega)
        have : 1 ≤ B32 ^ m := Nat.pow_pos (by decide)
        omega
      have := ih (fun x hx => h x (by simp [hx])) _ _ h2
      simp only [List.foldl_cons, List.length_cons]
      rw [show m + (r.length + 1) = m + 1 + r.length by omega]
      exact this
  have := this l h 0 0 (by simp)
  simpa [dval] using this

theorem ws10 : Ws [10] := by intro x hx; simp at hx; subst hx; decide

end Go.Proofs.Ytlhaepcnhkaclaa

namespace Go.Proofs.Ytlhaepcnhkaclaa
set_option linter.unusedVariables false
open Go Go.RowKit

/-- What Int answers. -/
def intR (z : Int) : Value := if -9223372036854775808 ≤ z ∧ z ≤ 9223372036854775807 then .tuple #[.int .i64 z, .bool true] else .tuple #[.int .i64 0, .bool false]

theorem sgn_neg {z : Int} (h : z < 0) : sgn z = -1 := by unfold sgn; rw [if_neg (by omega), if_pos h]
theorem sgn_nonneg {z : Int} (h : 0 ≤ z) : 0 ≤ sgn z := by unfold sgn; split <;> (try split) <;> omega
theorem sgn_pos {z : Int} (h : 0 < z) : sgn z = 1 := by unfold sgn; rw [if_neg (by omega), if_neg (by omega)]
theorem sgn_nonpos {z : Int} (h : z ≤ 0) : sgn z ≤ 0 := by unfold sgn; split <;> (try split) <;> omega

theorem natAbs_sub_len {z c : Int} {n : Nat} (h : z.natAbs < B32 ^ n) (hc : c.natAbs ≤ 9223372036854775808) : (dig B32 (z - c).natAbs).length ≤ n + 2 := by
  refine natAbs_len ?_
  have h1 : (z - c).natAbs ≤ z.natAbs + c.natAbs := by omega
  have h2 : B32 ^ (n + 2) = B32 ^ n * 18446744073709551616 := by rw [Nat.pow_add]; rfl
  have h3 : 1 ≤ B32 ^ n := Nat.pow_pos (by decide)
  rw [h2]
  omega

theorem val_drop (l : List Nat) (k : Nat) (hk : k < l.length) : val B32 (l.drop k) = l[k] + B32 * val B32 (l.drop (k + 1)) := by
  rw [List.drop_eq_getElem_cons hk]
  rfl
theorem val_drop_le (l : List Nat) : ∀ k, val B32 (l.drop k) ≤ val B32 l := by
  induction l with
  | nil => intro k; simp
  | cons x r ih =>
    intro k
    cases k with
    | zero => simp
    | succ k =>
      have := ih k
      simp only [List.drop_succ_cons, val]
      have : val B32 r ≤ B32 * val B32 r := Nat.le_mul_of_pos_left _ (by decide)
      omega

set_option maxRecDepth 100000 in
set_option maxHeartbeats 2000000 in
theorem r02_Int_any (neg : Bool) (a : Option Addr) (n cap : Nat) (z : Int) (w : World) (hw : WhIn w neg a n cap z) (hn : n ≤ 274877906944) :
    Calls Try.prog 96 #[.agg #[.bool neg, .slice a n cap]] w fun e w' => e = .returned (intR z) ∧ Ext w w' := by
  have hb1 := natAbs_sub_len (c := -9223372036854775808) hw.lt (by decide)
  have hb2 := natAbs_sub_len (c := 9223372036854775807) hw.lt (by decide)
  have HB1 := hidP hb1; have HB2 := hidP hb2
  clear hb1 hb2
  have ho1 : (dig B32 (-9223372036854775808 : Int).natAbs).length ≤ 549755813888 := by
    have : (dig B32 (-9223372036854775808 : Int).natAbs).length ≤ 2 := natAbs_len (by decide)
    omega
  have ho2 : (dig B32 (9223372036854775807 : Int).natAbs).length ≤ 549755813888 := by
    have : (dig B32 (9223372036854775807 : Int).natAbs).length ≤ 2 := natAbs_len (by decide)
    omega
  have HO1 := hidP ho1; have HO2 := hidP ho2
  clear ho1 ho2
  have HW := hidP hw; clear hw
  go_enter Try.func96, Try.ntmps96
  go_upto_region 1 with fail
  obtain ⟨w0, hw0⟩ : ∃ w0 : World, w0 = World.drew (w.alloc (.cells #[.bool neg, .slice a n cap] 97)) := ⟨_, rfl⟩
  have c0 : w0.cell? ⟨w.heap.size, 0, none⟩ = some (.bool neg) := by rw [hw0]; go_simp; try rfl
  have c1 : w0.cell? ⟨w.heap.size, 1, none⟩ = some (.slice a n cap) := by rw [hw0]; go_simp; try rfl
  have HE : Ext w w0 := by rw [hw0]; exact ((Ext.refl _).alloc _).drew
  refine wp_region_plan (R := Ext) (.q 0 (.l 1 (.l 2 (.q 3 (.q 4 (.q 5 (.l 6 (.l 7 (.q 8 (.q 9 .done)))))))))) (by kernel_rfl) (by kernel_rfl) (by kernel_rfl) (by kernel_rfl) Ext.refl (fun _ _ _ => Ext.trans) ?_
  rw [← hw0]
  clear hw0
  repeat (refine wpE_q (v := ?_) rfl rfl (fun u hu => ?_) ?_; rotate_left 1; (focus ((have k0 := hu.cell' c0; have k1 := hu.cell' c1); go_simp; (try rfl))); simp only [Act.put, List.setIfInBounds_toArray, List.set_cons_zero, List.set_cons_succ])
  by_cases hz1 : z < -9223372036854775808
  · have HR : Hid (intR z = .tuple #[.int .i64 0, .bool false]) := hidP (if_neg (fun h => by omega))
    have hc1 : sgn (z - (-9223372036854775808)) = -1 := sgn_neg (by omega)
    have HC1 := hidP hc1
    clear hc1
    refine wpE_l rfl rfl (fun K hK => ?_)
    go_simp
    refine (r02_Of_any (-9223372036854775808) _ (by decide) (by decide)).mono ?_
    rintro e u1 h1
    obtain ⟨a1, n1, cap1, rfl, hw1, hs1, he1⟩ := h1.whIn HO1.out
    refine hK.out _ _ he1 ?_
    clear hK K h1 hs1
    replace c0 := he1.cell' c0
    replace c1 := he1.cell' c1
    replace HE := HE.trans he1
    clear he1
    try simp only [Act.put, List.setIfInBounds_toArray, List.set_cons_zero, List.set_cons_succ]
    refine wpE_l rfl rfl (fun K hK => ?_)
    go_simp
    refine (r02_Cmp_any neg _ a a1 n cap n1 cap1 z (-9223372036854775808) _ (HW.out.ext HE) hw1 (by have := HB1.out; omega)).mono ?_
    rw [HC1.out]
    rintro e u2 ⟨rfl, he1⟩
    refine hK.out _ _ he1 ?_
    clear hK K hw1
    replace c0 := he1.cell' c0
    replace c1 := he1.cell' c1
    replace HE := HE.trans he1
    clear he1
    try simp only [Act.put, List.setIfInBounds_toArray, List.set_cons_zero, List.set_cons_succ]
    repeat (refine wpE_q (v := ?_) rfl rfl (fun u hu => ?_) ?_; rotate_left 1; (focus ((have k0 := hu.cell' c0; have k1 := hu.cell' c1); go_simp; (try rfl))); simp only [Act.put, List.setIfInBounds_toArray, List.set_cons_zero, List.set_cons_succ])
    refine wpE_qs rfl rfl ?_
    simp only [Act.put, List.setIfInBounds_toArray, List.set_cons_zero, List.set_cons_succ]
    refine wpE_ls (Ext.refl _) rfl rfl ?_
    simp only [Act.put, List.setIfInBounds_toArray, List.set_cons_zero, List.set_cons_succ]
    refine wpE_ls (Ext.refl _) rfl rfl ?_
    simp only [Act.put, List.setIfInBounds_toArray, List.set_cons_zero, List.set_cons_succ]
    refine wpE_qs rfl rfl ?_
    simp only [Act.put, List.setIfInBounds_toArray, List.set_cons_zero, List.set_cons_succ]
    repeat (refine wpE_q (v := ?_) rfl rfl (fun u hu => ?_) ?_; rotate_left 1; (focus ((have k0 := hu.cell' c0; have k1 := hu.cell' c1); go_simp; (try rfl))); simp only [Act.put, List.setIfInBounds_toArray, List.set_cons_zero, List.set_cons_succ])
    refine wpE_done ?_
    go_wp2_with fail
    go_ret2
    exact ⟨by rw [HR.out]; rfl, HE⟩
  · obtain ⟨s1, hs1⟩ : ∃ s1, sgn (z - (-9223372036854775808)) = s1 := ⟨_, rfl⟩
    have hp1 : 0 ≤ s1 := by rw [← hs1]; exact sgn_nonneg (by omega)
    have hd1 : decide (s1 < 0) = false := by simp; omega
    have HC1 := hidP hs1
    clear hs1
    refine wpE_l rfl rfl (fun K hK => ?_)
    go_simp
    refine (r02_Of_any (-9223372036854775808) _ (by decide) (by decide)).mono ?_
    rintro e u1 h1
    obtain ⟨a1, n1, cap1, rfl, hw1, hs1, he1⟩ := h1.whIn HO1.out
    refine hK.out _ _ he1 ?_
    clear hK K h1 hs1
    replace c0 := he1.cell' c0
    replace c1 := he1.cell' c1
    replace HE := HE.trans he1
    clear he1
    try simp only [Act.put, List.setIfInBounds_toArray, List.set_cons_zero, List.set_cons_succ]
    refine wpE_l rfl rfl (fun K hK => ?_)
    go_simp
    refine (r02_Cmp_any neg _ a a1 n cap n1 cap1 z (-9223372036854775808) _ (HW.out.ext HE) hw1 (by have := HB1.out; omega)).mono ?_
    rw [HC1.out]
    rintro e u2 ⟨rfl, he1⟩
    refine hK.out _ _ he1 ?_
    clear hK K hw1
    replace c0 := he1.cell' c0
    replace c1 := he1.cell' c1
    replace HE := HE.trans he1
    clear he1
    try simp only [Act.put, List.setIfInBounds_toArray, List.set_cons_zero, List.set_cons_succ]
    repeat (refine wpE_q (v := ?_) rfl rfl (fun u hu => ?_) ?_; rotate_left 1; (focus ((have k0 := hu.cell' c0; have k1 := hu.cell' c1); go_simp; (try rfl))); simp only [Act.put, List.setIfInBounds_toArray, List.set_cons_zero, List.set_cons_succ])
    by_cases hz2 : 9223372036854775807 < z
    · have HR : Hid (intR z = .tuple #[.int .i64 0, .bool false]) := hidP (if_neg (fun h => by omega))
      have hc2 : sgn (z - 9223372036854775807) = 1 := sgn_pos (by omega)
      have HC2 := hidP hc2
      clear hc2
      refine wpE_l rfl rfl (fun K hK => ?_)
      go_simp
      refine (r02_Of_any (9223372036854775807) _ (by decide) (by decide)).mono ?_
      rintro e v1 h1
      obtain ⟨a1, n1, cap1, rfl, hw1, hs1, he1⟩ := h1.whIn HO2.out
      refine hK.out _ _ he1 ?_
      clear hK K h1 hs1
      replace c0 := he1.cell' c0
      replace c1 := he1.cell' c1
      replace HE := HE.trans he1
      clear he1
      try simp only [Act.put, List.setIfInBounds_toArray, List.set_cons_zero, List.set_cons_succ]
      refine wpE_l rfl rfl (fun K hK => ?_)
      go_simp
      refine (r02_Cmp_any neg _ a a1 n cap n1 cap1 z (9223372036854775807) _ (HW.out.ext HE) hw1 (by have := HB2.out; omega)).mono ?_
      rw [HC2.out]
      rintro e v2 ⟨rfl, he1⟩
      refine hK.out _ _ he1 ?_
      clear hK K hw1
      replace c0 := he1.cell' c0
      replace c1 := he1.cell' c1
      replace HE := HE.trans he1
      clear he1
      try simp only [Act.put, List.setIfInBounds_toArray, List.set_cons_zero, List.set_cons_succ]
      repeat (refine wpE_q (v := ?_) rfl rfl (fun u hu => ?_) ?_; rotate_left 1; (focus ((have k0 := hu.cell' c0; have k1 := hu.cell' c1); go_simp; (try rfl))); simp only [Act.put, List.setIfInBounds_toArray, List.set_cons_zero, List.set_cons_succ])
      refine wpE_done ?_
      go_wp2_with fail
      go_ret2
      exact ⟨by rw [HR.out]; rfl, HE⟩
    · have HR : Hid (intR z = .tuple #[.int .i64 z, .bool true]) := hidP (if_pos ⟨by omega, by omega⟩)
      obtain ⟨s2, hs2⟩ : ∃ s2, sgn (z - 9223372036854775807) = s2 := ⟨_, rfl⟩
      have hp2 : s2 ≤ 0 := by rw [← hs2]; exact sgn_nonpos (by omega)
      have hd2 : decide (0 < s2) = false := by simp; omega
      have HC2 := hidP hs2
      clear hs2
      refine wpE_l rfl rfl (fun K hK => ?_)
      go_simp
      refine (r02_Of_any (9223372036854775807) _ (by decide) (by decide)).mono ?_
      rintro e v1 h1
      obtain ⟨a1, n1, cap1, rfl, hw1, hs1, he1⟩ := h1.whIn HO2.out
      refine hK.out _ _ he1 ?_
      clear hK K h1 hs1
      replace c0 := he1.cell' c0
      replace c1 := he1.cell' c1
      replace HE := HE.trans he1
      clear he1
      try simp only [Act.put, List.setIfInBounds_toArray, List.set_cons_zero, List.set_cons_succ]
      refine wpE_l rfl rfl (fun K hK => ?_)
      go_simp
      refine (r02_Cmp_any neg _ a a1 n cap n1 cap1 z (9223372036854775807) _ (HW.out.ext HE) hw1 (by have := HB2.out; omega)).mono ?_
      rw [HC2.out]
      rintro e v2 ⟨rfl, he1⟩
      refine hK.out _ _ he1 ?_
      clear hK K hw1
      replace c0 := he1.cell' c0
      replace c1 := he1.cell' c1
      replace HE := HE.trans he1
      clear he1
      try simp only [Act.put, List.setIfInBounds_toArray, List.set_cons_zero, List.set_cons_succ]
      repeat (refine wpE_q (v := ?_) rfl rfl (fun u hu => ?_) ?_; rotate_left 1; (focus ((have k0 := hu.cell' c0; have k1 := hu.cell' c1); go_simp; (try rfl))); simp only [Act.put, List.setIfInBounds_toArray, List.set_cons_zero, List.set_cons_succ])
      refine wpE_done ?_
      obtain ⟨⟨l, hsl, hl, hz⟩, _⟩ := HW.out.ext HE
      clear HW HB1 HB2 HO1 HO2 HC1 HC2
      have hln := hsl.int_len
      cases neg with
      | false =>
        have hvz : z = (val B32 l : Int) := by rw [← hz]; rfl
        have hvb : val B32 l ≤ 9223372036854775807 := by omega
        have HVZ := hidP hvz
        have HVB := hidP hvb
        clear hz hvz hvb
        go_wp2_with fail
        go_loop [4, 5] (fun v i => ∃ k v' : Nat, k ≤ n ∧ i = .int .i64 ((k : Int) - 1) ∧ v = .int .i64 ((v' : Int)) ∧ val B32 (l.drop k) = v') (fun _ i => (intOf i + 1).toNat)
        case atStart => exact ⟨n, 0, by omega, by go_num, rfl, by rw [List.drop_eq_nil_of_le (by omega)]; rfl⟩
        case round =>
          obtain ⟨k, v', hk, rfl, rfl, hv⟩ := hrel
          have HV := hidP hv; clear hv
          by_cases h0 : 0 < k
          · obtain ⟨j, rfl⟩ : ∃ j, k = j + 1 := ⟨k - 1, by omega⟩
            have e1 : ((j + 1 : Nat) : Int) - 1 = (j : Int) := by omega
            rw [e1]
            obtain ⟨b, off, rfl, hcc⟩ := hsl.at_int (by omega)
            have hck := hcc j (by omega)
            have hx := hl.at j (by omega)
            have hst := val_drop l j (by omega)
            rw [HV.out] at hst
            have hle := val_drop_le l j
            rw [hst] at hle
            have hle2 := HVB.out
            generalize l[j] = x at *
            have hb : x + 4294967296 * v' ≤ 9223372036854775807 := Nat.le_trans (show x + 4294967296 * v' ≤ val B32 l from hle) hle2
            have HST := hidP hst
            clear hst hle hle2 hcc e1
            go_wp2_with fail
            go_round
            case rel => exact ⟨j, x + 4294967296 * v', by omega, rfl, by go_num, by rw [HST.out]; rfl⟩
            case measure => simp [intOf]
          · obtain rfl : k = 0 := by omega
            go_wp2_with fail
            go_ret2
            have h1 := HV.out
            simp only [List.drop_zero] at h1
            exact ⟨by rw [HR.out, HVZ.out, h1]; rfl, HE⟩
      | true =>
        have hvz : z = -(val B32 l : Int) := by rw [← hz]; rfl
        have hvb : val B32 l ≤ 9223372036854775808 := by omega
        have HVZ := hidP hvz
        have HVB := hidP hvb
        clear hz hvz hvb
        go_wp2_with fail
        go_loop [4, 5] (fun v i => ∃ k v' : Nat, k ≤ n ∧ i = .int .i64 ((k : Int) - 1) ∧ v = .int .i64 (-(v' : Int)) ∧ val B32 (l.drop k) = v') (fun _ i => (intOf i + 1).toNat)
        case atStart => exact ⟨n, 0, by omega, by go_num, rfl, by rw [List.drop_eq_nil_of_le (by omega)]; rfl⟩
        case round =>
          obtain ⟨k, v', hk, rfl, rfl, hv⟩ := hrel
          have HV := hidP hv; clear hv
          by_cases h0 : 0 < k
          · obtain ⟨j, rfl⟩ : ∃ j, k = j + 1 := ⟨k - 1, by omega⟩
            have e1 : ((j + 1 : Nat) : Int) - 1 = (j : Int) := by omega
            rw [e1]
            obtain ⟨b, off, rfl, hcc⟩ := hsl.at_int (by omega)
            have hck := hcc j (by omega)
            have hx := hl.at j (by omega)
            have hst := val_drop l j (by omega)
            rw [HV.out] at hst
            have hle := val_drop_le l j
            rw [hst] at hle
            have hle2 := HVB.out
            generalize l[j] = x at *
            have hb : x + 4294967296 * v' ≤ 9223372036854775808 := Nat.le_trans (show x + 4294967296 * v' ≤ val B32 l from hle) hle2
            have HST := hidP hst
            clear hst hle hle2 hcc e1
            go_wp2_with fail
            go_round
            case rel => exact ⟨j, x + 4294967296 * v', by omega, rfl, by go_num, by rw [HST.out]; rfl⟩
            case measure => simp [intOf]
          · obtain rfl : k = 0 := by omega
            go_wp2_with fail
            go_ret2
            have h1 := HV.out
            simp only [List.drop_zero] at h1
            exact ⟨by rw [HR.out, HVZ.out, h1]; rfl, HE⟩

/-- A number's text. -/
def textZ (z : Int) : ByteArray := if z < 0 then ⟨#[45]⟩ ++ decS z.natAbs else decS z.natAbs

end Go.Proofs.Ytlhaepcnhkaclaa

namespace Go.Proofs.Ytlhaepcnhkaclaa
set_option linter.unusedVariables false
open Go Go.RowKit

theorem bodyPost_cells_tmp2 {P : Program} {fn : Func} {R : Ending → World → Prop} {a : Act} {w : World} {p q : Tmp} {ty : TypeId} {d : TypeDesc} {g : Nat} {cs : Array Value} {v : Value} (h : fn.results = #[.cell p ty, .tmp q])
    (hp : a.tmps.getD p undef = .pointer (some ⟨g, 0, none⟩)) (hu : P.underlying ty = some d) (hd : (match d with | .struct _ | .array _ _ => true | _ => false) = true) (hi : (P.info? ty).map (·.size) = some cs.size)
    (hg : ∀ j v, cs.toList[j]? = some v → w.cell? ⟨g, j, none⟩ = some v) (hq : a.tmps.getD q undef = v) (hdef : a.defers = []) (hR : R (.returned (.tuple #[.agg cs, v])) w) : bodyPost P fn R .ret a w := by
  refine bodyPost_ret (v := .tuple #[.agg cs, v]) ?_ hdef hR
  have hp' : a.tmps[p]?.getD undef = .pointer (some ⟨g, 0, none⟩) := by simpa using hp
  have hq' : a.tmps[q]?.getD undef = v := by simpa using hq
  simp [results, h, hp', hq', asAddr, run_loadVar_cells w g ty cs d hg hu hd hi]

def isNeg (l : List Nat) : Bool := decide (l.getD 0 0 = 45)
def behind (l : List Nat) : List Nat := if isNeg l then l.drop 1 else l
/-- What Parse answers: what is wrong, and the number. -/
def whParse (l : List Nat) : Nat × Int :=
  if 2000 < (behind l).length then (4, 0) else if ¬ PlainL (behind l) then (3, 0) else if isNeg l = true ∧ dval (behind l) = 0 then (3, 0) else (0, wz (isNeg l) (dval (behind l)))
def ParseW (w : World) (r : Nat × Int) (e : Ending) (w' : World) : Prop :=
  ∃ a n cap, e = .returned (.tuple #[.agg #[.bool (decide (r.2 < 0)), .slice a n cap], .int .i64 ((r.1 : Nat) : Int)]) ∧ Sl w' a n cap (ints .u32 (dig B32 r.2.natAbs)) ∧ Ext w w'

theorem ParseW.zero {w u : World} {g c x2 x3 : Nat} {b0 : Bool} {x1 : Option Addr} (h0 : u.cell? ⟨g, 0, none⟩ = some (.bool b0)) (h1 : u.cell? ⟨g, 1, none⟩ = some (.slice x1 x2 x3)) (he : Ext w u) (hg : w.heap.size ≤ g) :
    ParseW w (c, 0) (.returned (.tuple #[.agg #[.bool false, .slice none 0 0], .int .i64 (c : Int)])) ((u.setCell ⟨g, 0, none⟩ (.bool false)).setCell ⟨g, 1, none⟩ (.slice none 0 0)) :=
  ⟨none, 0, 0, rfl, by simpa [dig_zero, ints] using Sl.nil _, (he.store hg _).store hg _⟩
theorem ParseW.some {w u : World} {g x2 x3 : Nat} {b0 b : Bool} {x1 a : Option Addr} {n cap : Nat} {z : Int} (h0 : u.cell? ⟨g, 0, none⟩ = some (.bool b0)) (h1 : u.cell? ⟨g, 1, none⟩ = some (.slice x1 x2 x3)) (hs : Sl u a n cap (ints .u32 (dig B32 z.natAbs)))
    (he : Ext w u) (hg : w.heap.size ≤ g) (hb : b = decide (z < 0)) :
    ParseW w (0, z) (.returned (.tuple #[.agg #[.bool b, .slice a n cap], .int .i64 0])) ((u.setCell ⟨g, 0, none⟩ (.bool b)).setCell ⟨g, 1, none⟩ (.slice a n cap)) := by
  obtain ⟨a', n', cap', h, hs', he'⟩ := RetW.stored h0 h1 hs he hg hb
  simp only [Ending.returned.injEq, Value.agg.injEq] at h
  have h2 := congrArg Array.toList h
  simp at h2
  obtain ⟨rfl, rfl, rfl, rfl⟩ := h2
  exact ⟨a, n, cap, rfl, hs', he'⟩

end Go.Proofs.Ytlhaepcnhkaclaa

namespace Go.Proofs.Ytlhaepcnhkaclaa
set_option linter.unusedVariables false
open Go Go.RowKit

/-- 'd = append(d, x)' of a byte: which other blocks stay. -/
theorem wpList_app1G {P : Program} {ops : Array Oper} {rest : List Oper} {o : Oper} {a : Act} {Q : Exit → Act → World → Prop} {W w : World} {t e e' : TypeId} {z : Value} {bytes : Nat} (hT : SlT P t e z bytes)
    (hgd : o.guard = none) (s x : Operand) (ho : o.op = .call { callee := .builtin .append, args := #[s, x], argTypes := #[t, t] })
    {v : Value} {n : Nat} {xs : List Value} (hown : w.ownsRow W.heap.size e 1 v n xs) (he : Ext W w) (u : Value) (hu : u.oneCell' = true) {c : Nat} (hs : a.eval s = v)
    (hx : a.eval x = .slice (some ⟨w.heap.size, 0, none⟩) 1 c) (hb : n + 1 ≤ 17592186044416) (hb' : bytes ≤ 8)
    (h : ∀ v' w', w'.ownsRow W.heap.size e 1 v' (n + 1) (xs ++ [u]) → Ext W w' → (w.alloc (.cells #[u] e')).grownBy w' v.ownBlock → wpList P ops Q rest (a.put o.dst v') w') :
    wpList P ops Q (o :: rest) a (w.alloc (.cells #[u] e')) := by
  obtain ⟨ht, i, hi, hz, hsz, hby, hzs⟩ := hT
  refine wpList_plain hgd fun _ hK => ?_
  refine wp_append_own _ s x t ho W.heap.size e i z 1 bytes ht hi hz hsz hby hzs (by decide) v n xs hs (hown.alloc _) _ 1 c [u] hx rfl (cell_one_new _ _ _) (by simpa using hu) (by unfold maxLen; omega)
    (Nat.le_trans (Nat.mul_le_mul hb hb') (by decide)) ((he.alloc _).size) ?_
  intro v' w' h1 h2 _
  exact hK _ _ (h v' w' h1 (Below.grown (he.alloc _) h2 (he.alloc _).size (fun k hk => (hown.lt k hk).1)) h2)

def sliceLen : Value → Nat
  | .slice _ n _ => n
  | _ => 0
theorem row_sliceLen {w : World} {B e n : Nat} {v : Value} {xs : List Value} (h : w.ownsRow B e 1 v n xs) : sliceLen v = n := by
  obtain ⟨a, cap, rfl, _⟩ := Sl.of_owns h
  rfl

theorem ownsRow_ext1 {w u : World} {B e n : Nat} {v : Value} {xs : List Value} (h : w.ownsRow B e 1 v n xs) (he : Ext w u) : u.ownsRow B e 1 v n xs := by
  obtain ⟨h1, h2⟩ := h
  refine ⟨h1, ?_⟩
  rcases h2 with h2 | ⟨g, cap, cur, rfl, hg, hh, hn, hm, hs, hx⟩
  · exact .inl h2
  · have hlt : g < w.heap.size := by
      rcases Nat.lt_or_ge g w.heap.size with h | h
      · exact h
      · rw [Array.getElem?_eq_none h] at hh; cases hh
    exact .inr ⟨g, cap, cur, rfl, hg, (he.block g hlt).trans hh, hn, hm, hs, hx⟩

/-- The letters of digits. -/
def lets (E : List Nat) : List Nat := E.map (48 + ·)
theorem lets_append (E F : List Nat) : lets (E ++ F) = lets E ++ lets F := by simp [lets]

end Go.Proofs.Ytlhaepcnhkaclaa

namespace Go.Proofs.Ytlhaepcnhkaclaa
set_option linter.unusedVariables false
open Go Go.RowKit

end Go.Proofs.Ytlhaepcnhkaclaa

namespace Go.Proofs.Ytlhaepcnhkaclaa
set_option linter.unusedVariables false
open Go Go.RowKit

theorem wsOf {l : List Nat} (h : (l.all fun x => decide (x ≤ 4294967295)) = true) : Ws l := by
  intro x hx
  have := List.all_eq_true.1 h x hx
  simp at this
  unfold B32
  omega

end Go.Proofs.Ytlhaepcnhkaclaa

namespace Go.Proofs.Ytlhaepcnhkaclaa
set_option linter.unusedVariables false
open Go Go.RowKit

end Go.Proofs.Ytlhaepcnhkaclaa

namespace Go.Proofs.Ytlhaepcnhkaclaa
set_option linter.unusedVariables false
open Go Go.RowKit

/-- What Uint answers. -/
def uintR (V : Nat) : Value := if V ≤ 18446744073709551615 then .tuple #[.int .u64 (V : Int), .bool true] else .tuple #[.int .u64 0, .bool false]

theorem or_zero64 (x : Nat) (h : x ≤ 4294967295) : bits .or .u64 0 (x : Int) = (x : Int) := by
  have h1 := or32 0 x (by omega) h
  simpa using h1

end Go.Proofs.Ytlhaepcnhkaclaa

namespace Go.Proofs.Ytlhaepcnhkaclaa
set_option linter.unusedVariables false
open Go Go.RowKit

/-- How many words a number has. -/
def dl (V : Nat) : Nat := (dig B32 V).length
theorem dl_mono {a b : Nat} (h : a ≤ b) : dl a ≤ dl b := dig_mono B32_two h
theorem dl_lt (a : Nat) : a < B32 ^ dl a := le_of_dig_len B32_two (Nat.le_refl _)
theorem dl_le {a N : Nat} (h : a < B32 ^ N) : dl a ≤ N := dig_len_le B32_two h
theorem dl_add {a b N : Nat} (ha : dl a ≤ N) (hb : dl b ≤ N) : dl (a + b) ≤ N + 1 := by
  refine dl_le ?_
  have h1 := Nat.lt_of_lt_of_le (dl_lt a) (Nat.pow_le_pow_right (by decide : B32 > 0) ha)
  have h2 := Nat.lt_of_lt_of_le (dl_lt b) (Nat.pow_le_pow_right (by decide : B32 > 0) hb)
  have h3 : 2 * B32 ^ N ≤ B32 ^ (N + 1) := by rw [Nat.pow_succ, Nat.mul_comm]; exact Nat.mul_le_mul_left _ (by decide)
  omega
theorem dl_mul (a b : Nat) : dl (a * b) ≤ dl a + dl b := by
  refine dl_le ?_
  rw [Nat.pow_add]
  rcases Nat.eq_zero_or_pos b with h | h
  · subst h; exact Nat.mul_pos (Nat.pow_pos (by decide)) (Nat.pow_pos (by decide))
  · exact Nat.lt_of_lt_of_le (Nat.mul_lt_mul_of_pos_right (dl_lt a) h) (Nat.mul_le_mul_left _ (Nat.le_of_lt (dl_lt b)))
theorem dl_div (a b : Nat) : dl (a / b) ≤ dl a := dl_mono (Nat.div_le_self a b)
theorem dl_mod (a b : Nat) : dl (a % b) ≤ dl a := dl_mono (Nat.mod_le a b)
theorem dl_sub (a b : Nat) : dl (a - b) ≤ dl a := dl_mono (Nat.sub_le a b)
theorem dl_small {a : Nat} (h : a ≤ 4294967295) : dl a ≤ 1 := dl_le (by unfold B32; omega)
theorem dl_u64 {a : Nat} (h : a ≤ 18446744073709551615) : dl a ≤ 2 := dl_le (by unfold B32; omega)
theorem dig_inj {a b : Nat} : dig B32 a = dig B32 b ↔ a = b := ⟨fun h => by rw [← val_dig B32_two a, h, val_dig B32_two], fun h => by rw [h]⟩
theorem dl_zero : dl 0 = 0 := by unfold dl; rw [dig_zero]; rfl
theorem dl_eq_zero {a : Nat} : dl a = 0 ↔ a = 0 := by
  constructor
  · intro h
    have := dl_lt a
    rw [h, Nat.pow_zero] at this
    omega
  · intro h; rw [h]; exact dl_zero

/-- A slice stands for a number. -/
def Nu (w : World) (a : Option Addr) (n cap V : Nat) : Prop := (∃ l, Sl w a n cap (ints .u32 l) ∧ Ws l ∧ val B32 l = V) ∧ n ≤ 1099511627776
/-- It has that number's own words. -/
def Nc (w : World) (a : Option Addr) (n cap V : Nat) : Prop := Sl w a n cap (ints .u32 (dig B32 V))
theorem Nu.ext {w u : World} {a : Option Addr} {n cap V : Nat} (h : Nu w a n cap V) (he : Ext w u) : Nu u a n cap V := let ⟨⟨l, hs, hl, hv⟩, hn⟩ := h; ⟨⟨l, hs.ext he, hl, hv⟩, hn⟩
theorem Nc.ext {w u : World} {a : Option Addr} {n cap V : Nat} (h : Nc w a n cap V) (he : Ext w u) : Nc u a n cap V := Sl.ext h he
theorem Nc.len {w : World} {a : Option Addr} {n cap V : Nat} (h : Nc w a n cap V) : n = dl V := (Sl.int_len h).symm
theorem Nc.nu {w : World} {a : Option Addr} {n cap V : Nat} (h : Nc w a n cap V) (hd : dl V ≤ 1099511627776) : Nu w a n cap V := ⟨⟨_, h, Ws.dig _, val_dig B32_two _⟩, by rw [h.len]; exact hd⟩
theorem Nu.dl {w : World} {a : Option Addr} {n cap V : Nat} (h : Nu w a n cap V) : dl V ≤ n := by
  obtain ⟨⟨l, hs, hl, rfl⟩, hn⟩ := h
  have := dig_val_len B32_two l hl
  rw [hs.int_len] at this
  exact this
theorem Nc.zero (w : World) : Nc w none 0 0 0 := by unfold Nc; rw [dig_zero]; exact Sl.nil _
theorem Nc.lit1 (w : World) (d : Nat) (h : 1 ≤ d) (h2 : d ≤ 4294967295) (e : TypeId) : Nc (w.alloc (.cells #[.int .u32 (d : Int)] e)) (some ⟨w.heap.size, 0, none⟩) 1 1 d := by
  unfold Nc
  rw [dig_one (by omega) h2]
  exact Sl.lit w e #[.int .u32 (d : Int)] 1 rfl (by omega)

/-- The call hands back that number's own words. -/
def RetN (w : World) (V : Nat) (e : Ending) (w' : World) : Prop := ∃ a n cap, e = .returned (.slice a n cap) ∧ Nc w' a n cap V ∧ Ext w w'
theorem RetN.of {w : World} {V : Nat} {e : Ending} {w' : World} (h : RetSl w (ints .u32 (dig B32 V)) e w') : RetN w V e w' := h
/-- .. and whether it may be. -/
def RetNB (w : World) (V : Nat) (b : Bool) (e : Ending) (w' : World) : Prop := ∃ a n cap, e = .returned (.tuple #[.slice a n cap, .bool b]) ∧ Nc w' a n cap V ∧ Ext w w'
/-- A quotient and a rest. -/
def RetQR (w : World) (x y : Nat) (e : Ending) (w' : World) : Prop :=
  ∃ a n cap a' n' cap', e = .returned (.tuple #[.slice a n cap, .slice a' n' cap', .bool (decide (y ≠ 0))]) ∧ Nc w' a n cap (if y = 0 then 0 else x / y) ∧ Nc w' a' n' cap' (if y = 0 then 0 else x % y) ∧ Ext w w'
theorem RetQR.of {w : World} {x y : Nat} {e : Ending} {w' : World} (h : RetDiv w x y e w') : RetQR w x y e w' := by
  obtain ⟨a, n, cap, a', n', cap', he, h1, h2, h3⟩ := h
  refine ⟨a, n, cap, a', n', cap', he, ?_, ?_, h3⟩
  · unfold Nc
    split at h1
    · next h0 => rw [if_pos h0, dig_zero]; exact h1
    · next h0 => rw [if_neg h0]; exact h1
  · unfold Nc
    split at h2
    · next h0 => rw [if_pos h0, dig_zero]; exact h2
    · next h0 => rw [if_neg h0]; exact h2

section
variable {a a' : Option Addr} {n cap n' cap' V V' : Nat} {w : World}
theorem d_Bits (h : Nu w a n cap V) : Calls Try.prog 110 #[.slice a n cap] w fun e w' => e = .returned (.int .i64 (bitlen V : Nat)) ∧ Ext w w' := by
  obtain ⟨⟨l, hs, hl, rfl⟩, hn⟩ := h; exact r01_Bits_any a n cap l w hs hl hn
theorem d_Cmp (h : Nu w a n cap V) (h' : Nu w a' n' cap' V') : Calls Try.prog 113 #[.slice a n cap, .slice a' n' cap'] w fun e w' => e = .returned (.int .i64 (cmpI V V')) ∧ Ext w w' := by
  obtain ⟨⟨l, hs, hl, rfl⟩, hn⟩ := h; obtain ⟨⟨l', hs', hl', rfl⟩, hn'⟩ := h'; exact r01_Cmp_any a a' n cap n' cap' l l' w hs hs' hl hl' hn hn'
theorem d_Add (h : Nu w a n cap V) (h' : Nu w a' n' cap' V') : Calls Try.prog 111 #[.slice a n cap, .slice a' n' cap'] w (RetN w (V + V')) := by
  obtain ⟨⟨l, hs, hl, rfl⟩, hn⟩ := h; obtain ⟨⟨l', hs', hl', rfl⟩, hn'⟩ := h'; exact r01_Add_any a a' n cap n' cap' l l' w hs hs' hl hl' hn hn'
theorem d_Sub (h : Nu w a n cap V) (h' : Nu w a' n' cap' V') : Calls Try.prog 139 #[.slice a n cap, .slice a' n' cap'] w (RetNB w (V - V') (decide (V' ≤ V))) := by
  obtain ⟨⟨l, hs, hl, rfl⟩, hn⟩ := h; obtain ⟨⟨l', hs', hl', rfl⟩, hn'⟩ := h'; exact r01_Sub_any a a' n cap n' cap' l l' w hs hs' hl hl' hn hn'
theorem d_Mul (h : Nu w a n cap V) (h' : Nu w a' n' cap' V') : Calls Try.prog 104 #[.slice a n cap, .slice a' n' cap'] w (RetN w (V * V')) := by
  obtain ⟨⟨l, hs, hl, rfl⟩, hn⟩ := h; obtain ⟨⟨l', hs', hl', rfl⟩, hn'⟩ := h'; exact r01_Mul_any a a' n cap n' cap' l l' w hs hs' hl hl' hn hn'
theorem d_Div (h : Nu w a n cap V) (h' : Nu w a' n' cap' V') : Calls Try.prog 138 #[.slice a n cap, .slice a' n' cap'] w (RetQR w V V') := by
  obtain ⟨⟨l, hs, hl, rfl⟩, hn⟩ := h; obtain ⟨⟨l', hs', hl', rfl⟩, hn'⟩ := h'
  exact (r01_Div_any a a' n cap n' cap' l l' w hs hs' hl hl' hn hn').mono fun _ _ => RetQR.of
theorem d_Power (m : Nat) (w : World) (hm : m ≤ 35184372088832) : Calls Try.prog 112 #[.int .i64 m] w (RetN w (2 ^ m)) := r01_Power_any m w hm
theorem d_Of (v : Nat) (w : World) (hv : v ≤ 18446744073709551615) : Calls Try.prog 83 #[.int .u64 v] w (RetN w v) := r01_Of_any v hv w
/-- Digits of 16 bits. -/
theorem d_Half (h : Nu w a n cap V) : Calls Try.prog 126 #[.slice a n cap] w fun e w' => ∃ a n cap, e = .returned (.slice a n cap) ∧ Sl w' a n cap (ints .u64 (dig B16 V)) ∧ n ≤ 2199023255552 ∧ Ext w w' := by
  obtain ⟨⟨l, hs, hl, rfl⟩, hn⟩ := h
  refine (r01_half_any a n cap l w hs hl hn).mono ?_
  rintro e w' ⟨a2, n2, c2, rfl, h2, h3⟩
  refine ⟨a2, n2, c2, rfl, h2, ?_, h3⟩
  have h4 : (dig B16 (val B32 l)).length ≤ 2 * l.length := dig16_len_le l (fun d hd => hl d hd)
  have h5 := h2.int_len
  have h6 := hs.int_len
  omega
theorem d_Words (h : Sl w a n cap (ints .u64 (dig B16 V))) (hn : n ≤ 2199023255552) : Calls Try.prog 114 #[.slice a n cap] w (RetN w V) := by
  have := r01_words_any a n cap (dig B16 V) w h (Hs.dig _) (by omega)
  rw [val_dig B16_two] at this
  exact this
end
end Go.Proofs.Ytlhaepcnhkaclaa
