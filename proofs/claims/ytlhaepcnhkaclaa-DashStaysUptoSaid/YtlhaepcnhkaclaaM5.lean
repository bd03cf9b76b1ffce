/- Joined: W3 W4 W5 W6 W9 W10 W13 V1 V2 VH. -/
import Derived.Test.YtlhaepcnhkaclaaM4
import Derived.Test.YtlhaepcnhkaclaaM1
import Derived.Deep.DeepCutAuto
namespace Go.Proofs.Ytlhaepcnhkaclaa
set_option linter.unusedVariables false
open Go Go.RowKit

end Go.Proofs.Ytlhaepcnhkaclaa

namespace Go.Proofs.Ytlhaepcnhkaclaa
set_option linter.unusedVariables false
open Go Go.RowKit

end Go.Proofs.Ytlhaepcnhkaclaa

namespace Go.Proofs.Ytlhaepcnhkaclaa
set_option linter.unusedVariables false
open Go Go.RowKit

theorem bodyPost_cells2_tmp {P : Program} {fn : Func} {R : Ending → World → Prop} {a : Act} {w : World} {p p' q : Tmp} {ty : TypeId} {d : TypeDesc} {g g' : Nat} {cs cs' : Array Value} {v : Value} (h : fn.results = #[.cell p ty, .cell p' ty, .tmp q])
    (hp : a.tmps.getD p undef = .pointer (some ⟨g, 0, none⟩)) (hp2 : a.tmps.getD p' undef = .pointer (some ⟨g', 0, none⟩)) (hu : P.underlying ty = some d) (hd : (match d with | .struct _ | .array _ _ => true | _ => false) = true) (hi : (P.info? ty).map (·.size) = some cs.size) (hi' : (P.info? ty).map (·.size) = some cs'.size)
    (hg : ∀ j v, cs.toList[j]? = some v → w.cell? ⟨g, j, none⟩ = some v) (hg' : ∀ j v, cs'.toList[j]? = some v → w.cell? ⟨g', j, none⟩ = some v) (hq : a.tmps.getD q undef = v) (hdef : a.defers = []) (hR : R (.returned (.tuple #[.agg cs, .agg cs', v])) w) : bodyPost P fn R .ret a w := by
  refine bodyPost_ret (v := .tuple #[.agg cs, .agg cs', v]) ?_ hdef hR
  have hp' : a.tmps[p]?.getD undef = .pointer (some ⟨g, 0, none⟩) := by simpa using hp
  have hp3 : a.tmps[p']?.getD undef = .pointer (some ⟨g', 0, none⟩) := by simpa using hp2
  have hq' : a.tmps[q]?.getD undef = v := by simpa using hq
  simp [results, h, hp', hp3, hq', asAddr, run_loadVar_cells w g ty cs d hg hu hd hi, run_loadVar_cells w g' ty cs' d hg' hu hd hi']

end Go.Proofs.Ytlhaepcnhkaclaa

namespace Go.Proofs.Ytlhaepcnhkaclaa
set_option linter.unusedVariables false
open Go Go.RowKit

theorem live_m4 : textZ (-4) = ⟨#[45, 52]⟩ := by
  have h : decD 4 = [4] := decD_small (by omega)
  unfold textZ
  rw [if_pos (by decide)]
  show _ ++ decS 4 = _
  unfold decS
  rw [h]; rfl
theorem live_1 : textZ 1 = ⟨#[49]⟩ := by
  have h : decD 1 = [1] := decD_small (by omega)
  unfold textZ
  rw [if_neg (by decide)]
  show decS 1 = _
  unfold decS
  rw [h]; rfl

end Go.Proofs.Ytlhaepcnhkaclaa

namespace Go.Proofs.Ytlhaepcnhkaclaa
set_option linter.unusedVariables false
open Go Go.RowKit

end Go.Proofs.Ytlhaepcnhkaclaa

namespace Go.Proofs.Ytlhaepcnhkaclaa
set_option linter.unusedVariables false
open Go Go.RowKit

theorem WhIn.not {w : World} {neg : Bool} {a : Option Addr} {n cap : Nat} {z : Int} (h : WhIn w neg a n cap z) : WhIn w (!neg) a n cap (-z) :=
  let ⟨⟨l, h1, h2, h3⟩, h4⟩ := h; ⟨⟨l, h1, h2, by rw [wz_not, h3]⟩, h4⟩

theorem wz_mul (b b' : Bool) (x y : Nat) : wz (b != b') (x * y) = wz b x * wz b' y := by
  unfold wz
  cases b <;> cases b' <;> simp [Int.neg_mul, Int.mul_neg]

set_option maxRecDepth 100000 in
set_option maxHeartbeats 2000000 in
theorem r02_Mul_any (neg neg' : Bool) (a a' : Option Addr) (n cap n' cap' : Nat) (z z' : Int) (w : World) (hw : WhIn w neg a n cap z) (hw' : WhIn w neg' a' n' cap' z') :
    Calls Try.prog 103 #[.agg #[.bool neg, .slice a n cap], .agg #[.bool neg', .slice a' n' cap']] w (RetW w (z * z')) := by
  obtain ⟨⟨l, hs, hl, hz⟩, hn⟩ := hw
  obtain ⟨⟨l', hs', hl', hz'⟩, hn'⟩ := hw'
  have hln := hs.int_len
  have hln' := hs'.int_len
  have hzz : wz (neg != neg') (val B32 l * val B32 l') = z * z' := by rw [wz_mul, hz, hz']
  have hlen : (dig B32 (val B32 l * val B32 l')).length ≤ 1099511627776 := by
    refine Nat.le_trans (dig_len_le (k := n + n') B32_two ?_) (by omega)
    have h1 := val_lt (B := B32) (by decide) l hl
    have h2 := val_lt (B := B32) (by decide) l' hl'
    rw [hln] at h1
    rw [hln'] at h2
    rw [Nat.pow_add]
    exact Nat.mul_lt_mul'' h1 h2
  have HS := hidP hs; have HS' := hidP hs'
  obtain ⟨nb, hnb⟩ : ∃ nb, nb = (neg != neg') := ⟨_, rfl⟩
  rw [← hnb] at hzz
  have HZ := hidP hzz; have HLEN := hidP hlen
  clear hz hz' hzz hlen hln hln' hs hs'
  have hne : (!(neg == neg')) = nb := hnb.symm
  clear hnb
  go_enter Try.func103, Try.ntmps103
  go_upto_region 1 with fail
  obtain ⟨w0, hw0⟩ : ∃ w0 : World, w0 = World.drew (((w.alloc (.cells #[.bool neg, .slice a n cap] 97)).alloc (.cells #[.bool neg', .slice a' n' cap'] 97)).alloc (.cells #[.bool false, .slice none 0 0] 97)) := ⟨_, rfl⟩
  have c0 : w0.cell? ⟨w.heap.size, 0, none⟩ = some (.bool neg) := by rw [hw0]; go_simp; try rfl
  have c1 : w0.cell? ⟨w.heap.size, 1, none⟩ = some (.slice a n cap) := by rw [hw0]; go_simp; try rfl
  have d0 : w0.cell? ⟨w.heap.size + 1, 0, none⟩ = some (.bool neg') := by rw [hw0]; go_simp; try rfl
  have d1 : w0.cell? ⟨w.heap.size + 1, 1, none⟩ = some (.slice a' n' cap') := by rw [hw0]; go_simp; try rfl
  have z0 : w0.cell? ⟨w.heap.size + 1 + 1, 0, none⟩ = some (.bool false) := by rw [hw0]; go_simp; try rfl
  have qz0 : w0.frozen? ⟨w.heap.size + 1 + 1, 0, none⟩ = false := by rw [hw0]; go_simp; try rfl
  have z1 : w0.cell? ⟨w.heap.size + 1 + 1, 1, none⟩ = some (.slice none 0 0) := by rw [hw0]; go_simp; try rfl
  have qz1 : w0.frozen? ⟨w.heap.size + 1 + 1, 1, none⟩ = false := by rw [hw0]; go_simp; try rfl
  have HE : Ext w w0 := by rw [hw0]; exact ((((Ext.refl _).alloc _).alloc _).alloc _).drew
  refine wp_region_plan (R := Ext) (.q 0 (.q 1 (.q 2 (.q 3 (.q 4 (.q 5 (.q 6 (.q 7 (.q 8 (.l 9 (.l 10 (.b 11 .done)))))))))))) (by kernel_rfl) (by kernel_rfl) (by kernel_rfl) (by kernel_rfl) Ext.refl (fun _ _ _ => Ext.trans) ?_
  rw [← hw0]
  clear hw0
  repeat (refine wpE_q (v := ?_) rfl rfl (fun u hu => ?_) ?_; rotate_left 1; (focus ((have k0 := hu.cell' c0; have k1 := hu.cell' c1; have k2 := hu.cell' d0; have k3 := hu.cell' d1); go_simp; (try rfl))); simp only [Act.put, List.setIfInBounds_toArray, List.set_cons_zero, List.set_cons_succ])
  refine wpE_l rfl rfl (fun K hK => ?_)
  go_simp
  refine (r01_Mul_any a a' n cap n' cap' l l' _ (HS.out.ext HE) (HS'.out.ext HE) hl hl' (by omega) (by omega)).mono ?_
  rintro e w1 ⟨a1, n1, cap1, rfl, hs1, he1⟩
  refine hK.out _ _ he1 ?_
  clear hK K
  have hgl : w.heap.size + 1 + 1 < w0.heap.size := World.block_lt_of_cell? w0 _ z0
  replace z0 := he1.cell' z0
  replace qz0 := (he1.frozen (p := ⟨w.heap.size + 1 + 1, 0, none⟩) hgl).trans qz0
  replace z1 := he1.cell' z1
  replace qz1 := (he1.frozen (p := ⟨w.heap.size + 1 + 1, 1, none⟩) hgl).trans qz1
  clear hgl
  clear c0 c1 d0 d1
  replace HE := HE.trans he1
  clear he1
  try simp only [Act.put, List.setIfInBounds_toArray, List.set_cons_zero, List.set_cons_succ]
  refine wpE_l rfl rfl (fun K hK => ?_)
  go_simp
  refine (r02_Make_any nb a1 n1 cap1 _ _ hs1 (Ws.dig _) (by have h3 := hs1.int_len; have h4 := HLEN.out; omega)).mono ?_
  rw [val_dig B32_two, HZ.out]
  rintro e w2 ⟨a2, n2, cap2, rfl, hs2, he2⟩
  refine hK.out _ _ he2 ?_
  clear hK K
  have hgl : w.heap.size + 1 + 1 < w1.heap.size := World.block_lt_of_cell? w1 _ z0
  replace z0 := he2.cell' z0
  replace qz0 := (he2.frozen (p := ⟨w.heap.size + 1 + 1, 0, none⟩) hgl).trans qz0
  replace z1 := he2.cell' z1
  replace qz1 := (he2.frozen (p := ⟨w.heap.size + 1 + 1, 1, none⟩) hgl).trans qz1
  clear hgl
  replace HE := HE.trans he2
  clear he2 hs1
  try simp only [Act.put, List.setIfInBounds_toArray, List.set_cons_zero, List.set_cons_succ]
  refine wpE_b rfl rfl (fun K hK => ?_)
  go_simp
  refine hK.out _ _ ?_
  clear hK K
  try simp only [Act.put, List.setIfInBounds_toArray, List.set_cons_zero, List.set_cons_succ]
  refine wpE_done ?_
  go_wp2_with fail
  refine bodyPost_cells rfl rfl Try.underlying97 rfl (by kernel_rfl) (two (by go_simp; try rfl) (by go_simp; try rfl)) rfl ?_
  exact RetW.stored z0 z1 hs2 HE (by omega) rfl

theorem cmpI_sgn (x y : Nat) : cmpI x y = sgn ((x : Int) - (y : Int)) := by
  unfold cmpI sgn
  split
  · rw [if_neg (by omega), if_pos (by omega)]
  · split
    · rw [if_neg (by omega), if_neg (by omega)]
    · rw [if_pos (by omega)]

theorem sgn_cases (z : Int) : (sgn z = -1 ∧ z < 0) ∨ (sgn z = 0 ∧ z = 0) ∨ (sgn z = 1 ∧ 0 < z) := by
  unfold sgn
  split
  · exact .inr (.inl ⟨rfl, by assumption⟩)
  · split
    · exact .inl ⟨rfl, by assumption⟩
    · exact .inr (.inr ⟨rfl, by omega⟩)

end Go.Proofs.Ytlhaepcnhkaclaa

namespace Go.Proofs.Ytlhaepcnhkaclaa
set_option linter.unusedVariables false
open Go Go.RowKit

end Go.Proofs.Ytlhaepcnhkaclaa

namespace Go.Proofs.Ytlhaepcnhkaclaa
set_option linter.unusedVariables false
open Go Go.RowKit

theorem absB {P : Program} {fn : Func} {R : Ending → World → Prop} {ex : Exit} {a : Act} {w : World} (h : ∀ u, u = w → bodyPost P fn R ex a u) : bodyPost P fn R ex a w := h w rfl
theorem Nc.but {w u : World} {g : Nat} {cs : Array Value} {a : Option Addr} {n cap V : Nat} (h : Nc w a n cap V) (hb : Bl w g cs) (hcs : ∀ (j : Nat) (x : Int), cs[j]? ≠ some (Value.int .u32 x)) (hu : But w u g) : Nc u a n cap V := Sl.but h hb hcs hu
theorem bl_two {w : World} {g : Nat} {v0 v1 : Value} (h : Bl w g #[v0, v1]) : ∀ j v, (#[v0, v1] : Array Value).toList[j]? = some v → w.cell? ⟨g, j, none⟩ = some v := by
  intro j v hv
  rw [h j]
  simpa using hv
theorem WhIn.nu {w : World} {neg : Bool} {a : Option Addr} {n cap : Nat} {z : Int} (h : WhIn w neg a n cap z) : Nu w a n cap z.natAbs := by
  obtain ⟨⟨l, hs, hl, hz⟩, hn⟩ := h
  have h2 : z.natAbs = val B32 l := by rw [← hz]; unfold wz; split <;> omega
  exact ⟨⟨l, hs, hl, h2.symm⟩, by omega⟩
theorem WhIn.sgn {w : World} {neg : Bool} {a : Option Addr} {n cap : Nat} {z : Int} (h : WhIn w neg a n cap z) : z = wz neg z.natAbs := by
  obtain ⟨⟨l, hs, hl, hz⟩, hn⟩ := h
  have h2 : z.natAbs = val B32 l := by rw [← hz]; unfold wz; split <;> omega
  rw [h2]; exact hz.symm
theorem nb_bool {b : Bool} : ∀ x : Int, Value.bool b ≠ .int .u32 x := fun x h => by cases h
theorem nb_slice {a : Option Addr} {n c : Nat} : ∀ x : Int, Value.slice a n c ≠ .int .u32 x := fun x h => by cases h

theorem wz_false_nn (m : Nat) : decide (wz false m < 0) = false := decide_eq_false (by show ¬ ((m : Nat) : Int) < 0; omega)

/-- What is left: at least 0, below the divisor. -/
def zmod (z z' : Int) : Int := if z' = 0 then 0 else z % z'
/-- A quotient and a rest, with signs. -/
def RetWD (w : World) (z z' : Int) (e : Ending) (w' : World) : Prop :=
  ∃ a n cap a' n' cap', e = .returned (.tuple #[.agg #[.bool (decide (z / z' < 0)), .slice a n cap], .agg #[.bool (decide (zmod z z' < 0)), .slice a' n' cap'], .bool (decide (z' ≠ 0))]) ∧ Nc w' a n cap (z / z').natAbs ∧ Nc w' a' n' cap' (zmod z z').natAbs ∧ Ext w w'
theorem RetWD.of {w : World} {z z' q r : Int} {ok b c : Bool} {a a' : Option Addr} {n cap n' cap' : Nat} {u : World} (hq : z / z' = q) (hr : zmod z z' = r) (hok : decide (z' ≠ 0) = ok) (hb : decide (q < 0) = b) (hc : decide (r < 0) = c)
    (h1 : Nc u a n cap q.natAbs) (h2 : Nc u a' n' cap' r.natAbs) (he : Ext w u) : RetWD w z z' (.returned (.tuple #[.agg #[.bool b, .slice a n cap], .agg #[.bool c, .slice a' n' cap'], .bool ok])) u := by
  subst hq; subst hr; subst hok; subst hb; subst hc
  exact ⟨a, n, cap, a', n', cap', rfl, h1, h2, he⟩

theorem div_up {A B : Nat} (hB : 0 < B) (h0 : A % B ≠ 0) : (-(A : Int)) / (B : Int) = -((A / B + 1 : Nat) : Int) ∧ (-(A : Int)) % (B : Int) = ((B - A % B : Nat) : Int) := by
  have hm := Nat.mod_lt A hB
  have hd := Nat.div_add_mod A B
  refine (Int.ediv_emod_unique (by omega)).2 ⟨?_, by omega, by omega⟩
  have e : ((B - A % B : Nat) : Int) = (B : Int) - ((A % B : Nat) : Int) := by omega
  rw [e, Int.mul_neg]
  have e2 : (B : Int) * ((A / B + 1 : Nat) : Int) = ((B * (A / B) : Nat) : Int) + (B : Int) := by
    rw [Int.natCast_add, Int.mul_add, Int.natCast_mul]; simp
  rw [e2]
  omega
theorem div_even {A B : Nat} (hB : 0 < B) (h0 : A % B = 0) : (-(A : Int)) / (B : Int) = -((A / B : Nat) : Int) ∧ (-(A : Int)) % (B : Int) = 0 := by
  have hd := Nat.div_add_mod A B
  refine (Int.ediv_emod_unique (by omega)).2 ⟨?_, by omega, by omega⟩
  rw [Int.mul_neg, ← Int.natCast_mul]
  omega
theorem div_pos' {A B : Nat} : ((A : Int)) / (B : Int) = ((A / B : Nat) : Int) ∧ ((A : Int)) % (B : Int) = ((A % B : Nat) : Int) := ⟨rfl, rfl⟩
/-- The quotient and the rest, by the sizes. -/
theorem div_law {neg neg' : Bool} {A B : Nat} (hB : B ≠ 0) : (neg = true ∧ A % B ≠ 0 → wz neg A / wz neg' B = wz (neg != neg') (A / B + 1) ∧ wz neg A % wz neg' B = ((B - A % B : Nat) : Int)) ∧
    (¬ (neg = true ∧ A % B ≠ 0) → wz neg A / wz neg' B = wz (neg != neg') (A / B) ∧ wz neg A % wz neg' B = ((A % B : Nat) : Int)) := by
  have hB' : 0 < B := Nat.pos_of_ne_zero hB
  constructor
  · rintro ⟨rfl, h0⟩
    have h := div_up hB' h0
    cases neg'
    · simpa [wz] using h
    · simp only [wz]
      simp only [if_true, Int.ediv_neg, Int.emod_neg, h.1, h.2]
      simp
  · intro h0
    cases neg
    · cases neg'
      · simp [wz]
      · simp [wz]
    · have h1 : A % B = 0 := by simpa using h0
      have h := div_even hB' h1
      cases neg'
      · simp [wz, h.1, h.2, h1]
      · simp only [wz]
        simp only [if_true, Int.ediv_neg, Int.emod_neg, h.1, h.2, h1]
        simp

end Go.Proofs.Ytlhaepcnhkaclaa

namespace Go.Proofs.Ytlhaepcnhkaclaa
set_option linter.unusedVariables false
open Go Go.RowKit

theorem absE {R : World → World → Prop} {P : Program} {ops : Array Oper} {Q : Exit → Act → World → Prop} {p : Plan} {a : Act} {w : World} (h : ∀ u, u = w → wpE R P ops Q p a u) : wpE R P ops Q p a w := h w rfl
theorem Nc.wh {w : World} {a : Option Addr} {n cap : Nat} {z : Int} (h : Nc w a n cap z.natAbs) (hb : dl z.natAbs ≤ 549755813888) : WhIn w (decide (z < 0)) a n cap z :=
  ⟨⟨_, h, Ws.dig _, by rw [val_dig B32_two]; exact wz_canon z⟩, by rw [h.len]; exact hb⟩
theorem d_Make (neg : Bool) {a : Option Addr} {n cap V : Nat} {w : World} (h : Nu w a n cap V) : Calls Try.prog 124 #[.bool neg, .slice a n cap] w (RetW w (wz neg V)) := by
  obtain ⟨⟨l, hs, hl, rfl⟩, hn⟩ := h; exact r02_Make_any neg a n cap l w hs hl hn
theorem wz_abs (b : Bool) (m : Nat) : (wz b m).natAbs = m := by unfold wz; split <;> omega
theorem dz_sub {z z' : Int} {N : Nat} (h : dl z.natAbs ≤ N) (h' : dl z'.natAbs ≤ N) : dl (z - z').natAbs ≤ N + 1 :=
  Nat.le_trans (dl_mono (by omega : (z - z').natAbs ≤ z.natAbs + z'.natAbs)) (dl_add h h')
theorem dz_add {z z' : Int} {N : Nat} (h : dl z.natAbs ≤ N) (h' : dl z'.natAbs ≤ N) : dl (z + z').natAbs ≤ N + 1 :=
  Nat.le_trans (dl_mono (by omega : (z + z').natAbs ≤ z.natAbs + z'.natAbs)) (dl_add h h')
theorem dz_mul (z z' : Int) : dl (z * z').natAbs ≤ dl z.natAbs + dl z'.natAbs := by rw [Int.natAbs_mul]; exact dl_mul _ _
theorem sgn_m1 {z : Int} (h : z < 0) : sgn z = -1 := by
  rcases sgn_cases z with h1 | h1 | h1 <;> omega
theorem sgn_nn {z : Int} (h : 0 ≤ z) : 0 ≤ sgn z := by
  rcases sgn_cases z with h1 | h1 | h1 <;> omega
/-- The first guess and what it leaves. -/
theorem guess_law {neg neg' : Bool} {A B : Nat} : wz neg A - wz (neg != neg') (A / B) * wz neg' B = wz neg (A % B) := by
  have hd := Nat.div_add_mod A B
  have e : wz (neg != neg') (A / B) * wz neg' B = wz neg (A / B * B) := by
    rw [← wz_mul]
    cases neg <;> cases neg' <;> rfl
  rw [e, Nat.mul_comm]
  generalize A / B = q at *
  generalize A % B = r at *
  generalize B * q = s at *
  unfold wz
  cases neg <;> simp <;> omega

/-- All blocks but some are as they were. -/
def ButS (S : List Nat) (w u : World) : Prop := w.heap.size ≤ u.heap.size ∧ ∀ k, k < w.heap.size → k ∉ S → u.heap[k]? = w.heap[k]?
theorem ButS.refl (S : List Nat) (w : World) : ButS S w w := ⟨Nat.le_refl _, fun _ _ _ => rfl⟩
theorem ButS.trans (S : List Nat) (w u v : World) (h : ButS S w u) (h' : ButS S u v) : ButS S w v := ⟨Nat.le_trans h.1 h'.1, fun k hk hg => (h'.2 k (Nat.lt_of_lt_of_le hk h.1) hg).trans (h.2 k hk hg)⟩
theorem ButS.store {S : List Nat} {w u : World} {g j : Nat} {v : Value} (h : ButS S w u) (hg : g ∈ S) : ButS S w (u.setCell ⟨g, j, none⟩ v) :=
  ⟨Nat.le_trans h.1 (by simp), fun k hk hk2 => (heap_setCell_other u ⟨g, j, none⟩ k v (fun e => hk2 (by simp at e; rw [e]; exact hg))).trans (h.2 k hk hk2)⟩
theorem ButS.bl {S : List Nat} {w u : World} {h : Nat} {cs : Array Value} (hb : ButS S w u) (hh : Bl w h cs) (h0 : 0 < cs.size) (hne : h ∉ S) : Bl u h cs := fun j =>
  (World.cell?_of_block (a := ⟨h, j, none⟩) (hb.2 h (hh.lt h0) hne)).trans (hh j)

set_option maxRecDepth 100000 in
set_option maxHeartbeats 4000000 in
theorem r02_Div_any (neg neg' : Bool) (a a' : Option Addr) (n cap n' cap' : Nat) (z z' : Int) (w : World) (hw : WhIn w neg a n cap z) (hw' : WhIn w neg' a' n' cap' z') (hb : dl z.natAbs ≤ 137438953472) (hb' : dl z'.natAbs ≤ 137438953472) :
    Calls Try.prog 121 #[.agg #[.bool neg, .slice a n cap], .agg #[.bool neg', .slice a' n' cap']] w (RetWD w z z') := by
  have hA := hw.nu
  have hB := hw'.nu
  have hz := hw.sgn
  have hz' := hw'.sgn
  have HL := fun h => div_law (neg := neg) (neg' := neg') (A := z.natAbs) (B := z'.natAbs) h
  have HG := @guess_law neg neg' z.natAbs z'.natAbs
  rw [← hz, ← hz'] at HL HG
  have hz0 : z' ≠ 0 ↔ z'.natAbs ≠ 0 := by omega
  have HD1 : Hid (dl (wz (neg != neg') (z.natAbs / z'.natAbs)).natAbs ≤ 137438953472) := hidP (by rw [wz_abs]; have := dl_div z.natAbs z'.natAbs; omega)
  have HDQ : Hid (dl (z.natAbs / z'.natAbs) ≤ 137438953472) := hidP (by have := dl_div z.natAbs z'.natAbs; omega)
  have HD2 : Hid (dl (wz (neg != neg') (z.natAbs / z'.natAbs) * z').natAbs ≤ 274877906944) := hidP (by have := dz_mul (wz (neg != neg') (z.natAbs / z'.natAbs)) z'; have := HD1.out; omega)
  have HD3 : Hid (dl (z - wz (neg != neg') (z.natAbs / z'.natAbs) * z').natAbs ≤ 274877906945) := hidP (dz_sub (by omega) HD2.out)
  have HD4 : Hid (dl (z.natAbs / z'.natAbs + 1) ≤ 137438953473) := hidP (dl_add HDQ.out (by have := dl_small (a := 1) (by omega); omega))
  have HD5 : Hid (dl (wz (neg != neg') (z.natAbs / z'.natAbs + 1)).natAbs ≤ 137438953473) := hidP (by rw [wz_abs]; exact HD4.out)
  have HD6 : Hid (dl (wz (neg != neg') (z.natAbs / z'.natAbs + 1) * z').natAbs ≤ 274877906945) := hidP (by have := dz_mul (wz (neg != neg') (z.natAbs / z'.natAbs + 1)) z'; have := HD5.out; omega)
  generalize z.natAbs = A at *
  generalize z'.natAbs = B at *
  have HA := hidP hA; have HB := hidP hB; have HW := hidP hw; have HW' := hidP hw'
  clear hw hw' hA hB hz hz' hb hb'
  by_cases hB0 : B = 0
  · have hz00 : z' = 0 := by omega
    have HZS : Hid (sgn z' = 0) := hidP (by rw [hz00]; rfl)
    have HR : Hid (∀ u, Ext w u → RetWD w z z' (.returned (.tuple #[.agg #[.bool false, .slice none 0 0], .agg #[.bool false, .slice none 0 0], .bool false])) u) := hidP (fun u he => by
      refine RetWD.of (q := 0) (r := 0) ?_ ?_ ?_ rfl rfl (Nc.zero _) (Nc.zero _) he
      · rw [hz00, Int.ediv_zero]
      · unfold zmod; rw [if_pos hz00]
      · simp [hz00])
    generalize RetWD w z z' = R at *
    clear hz00 hz0 hB0 HL HG
    go_enter Try.func121, Try.ntmps121
    go_wp2_with fail
    refine absC (fun x1 hx1 => ?_)
    have hx : Ext w x1 := by rw [hx1]; exact (((((Ext.refl _).alloc _).alloc _).alloc _).alloc _)
    have bp : Bl x1 (w.heap.size) #[.bool neg, .slice a n cap] := by rw [hx1]; exact ((((Bl.new (by simp)).alloc (by simp)).alloc (by simp)).alloc (by simp))
    have bq : Bl x1 (w.heap.size + 1) #[.bool neg', .slice a' n' cap'] := by rw [hx1]; exact (((Bl.new (by simp)).alloc (by simp)).alloc (by simp))
    have bs : Bl x1 (w.heap.size + 1 + 1) #[.bool false, .slice none 0 0] := by rw [hx1]; exact ((Bl.new (by simp)).alloc (by simp))
    have fs : Fz x1 (w.heap.size + 1 + 1) := by rw [hx1]; exact ((Fz.new (by simp)).alloc (Bl.new (by simp)) (by simp))
    have bt : Bl x1 (w.heap.size + 1 + 1 + 1) #[.bool false, .slice none 0 0] := by rw [hx1]; exact (Bl.new (by simp))
    have ft : Fz x1 (w.heap.size + 1 + 1 + 1) := by rw [hx1]; exact (Fz.new (by simp))
    have HE := hx
    clear hx
    clear hx1
    refine (r02_Sign_any neg' a' n' cap' z' _ (HW'.out.ext HE)).mono ?_
    rw [HZS.out]
    rintro e u1 ⟨rfl, hx⟩
    replace bp := Bl.ext hx bp (Nat.succ_pos _)
    replace bq := Bl.ext hx bq (Nat.succ_pos _)
    replace fs := Fz.ext hx fs bs (Nat.succ_pos _)
    replace bs := Bl.ext hx bs (Nat.succ_pos _)
    replace ft := Fz.ext hx ft bt (Nat.succ_pos _)
    replace bt := Bl.ext hx bt (Nat.succ_pos _)
    replace HE := HE.trans hx
    clear hx
    go_wp2_with fail
    refine absB (fun ue hue => ?_)
    have hne : w.heap.size + 1 + 1 ≠ w.heap.size + 1 + 1 + 1 := by omega
    have hne' : w.heap.size + 1 + 1 + 1 ≠ w.heap.size + 1 + 1 := by omega
    have hbs : Bl ue (w.heap.size + 1 + 1) #[.bool false, .slice none 0 0] := by rw [hue]; exact (((bs.set (Nat.succ_pos _)).set (Nat.lt_succ_self _)).other hne).other hne
    have hbt : Bl ue (w.heap.size + 1 + 1 + 1) #[.bool false, .slice none 0 0] := by rw [hue]; exact ((((bt.other hne').other hne').set (Nat.succ_pos _)).set (Nat.lt_succ_self _))
    have hnc : ∀ {aa : Option Addr} {nn cc VV : Nat}, Nc u1 aa nn cc VV → Nc ue aa nn cc VV := fun h => by
      rw [hue]
      exact (h.but bs (not_ints2 nb_bool nb_slice) ((But.refl _ _).store.store)).but ((bt.other hne').other hne') (not_ints2 nb_bool nb_slice) ((But.refl _ _).store.store)
    have heu : Ext w ue := by rw [hue]; exact (((HE.store (by show w.heap.size ≤ w.heap.size + 1 + 1; omega) _).store (by show w.heap.size ≤ w.heap.size + 1 + 1; omega) _).store (by show w.heap.size ≤ w.heap.size + 1 + 1 + 1; omega) _).store (by show w.heap.size ≤ w.heap.size + 1 + 1 + 1; omega) _
    clear hue
    refine bodyPost_cells2_tmp rfl rfl rfl Try.underlying97 rfl (by kernel_rfl) (by kernel_rfl) (bl_two hbs) (bl_two hbt) rfl rfl ?_
    exact HR.out _ heu
  · have HZ := hidP hB0
    have HL2 := hidP (HL hB0)
    have HGL := hidP HG
    have HZ1 : Hid (decide (z' ≠ 0) = true) := hidP (decide_eq_true (hz0.2 hB0))
    have HZM : Hid (zmod z z' = z % z') := hidP (by unfold zmod; rw [if_neg (hz0.2 hB0)])
    have hsg : ¬ sgn z' = 0 := by have := hz0.2 hB0; rcases sgn_cases z' with h | h | h <;> omega
    have hsz : (sgn z' == 0) = false := by simpa using hsg
    clear HL hz0 HG hsg
    generalize hx0 : wz (neg != neg') (A / B) = X0 at *
    generalize hx1 : wz (neg != neg') (A / B + 1) = X1 at *
    have HX0 := hidP hx0; have HX1 := hidP hx1
    clear hx0 hx1
    go_enter Try.func121, Try.ntmps121
    go_wp2_with fail
    refine absC (fun x1 hx1 => ?_)
    have hx : Ext w x1 := by rw [hx1]; exact (((((Ext.refl _).alloc _).alloc _).alloc _).alloc _)
    have bp : Bl x1 (w.heap.size) #[.bool neg, .slice a n cap] := by rw [hx1]; exact ((((Bl.new (by simp)).alloc (by simp)).alloc (by simp)).alloc (by simp))
    have bq : Bl x1 (w.heap.size + 1) #[.bool neg', .slice a' n' cap'] := by rw [hx1]; exact (((Bl.new (by simp)).alloc (by simp)).alloc (by simp))
    have bs : Bl x1 (w.heap.size + 1 + 1) #[.bool false, .slice none 0 0] := by rw [hx1]; exact ((Bl.new (by simp)).alloc (by simp))
    have fs : Fz x1 (w.heap.size + 1 + 1) := by rw [hx1]; exact ((Fz.new (by simp)).alloc (Bl.new (by simp)) (by simp))
    have bt : Bl x1 (w.heap.size + 1 + 1 + 1) #[.bool false, .slice none 0 0] := by rw [hx1]; exact (Bl.new (by simp))
    have ft : Fz x1 (w.heap.size + 1 + 1 + 1) := by rw [hx1]; exact (Fz.new (by simp))
    have HE := hx
    clear hx
    clear hx1
    refine (r02_Sign_any neg' a' n' cap' z' _ (HW'.out.ext HE)).mono ?_
    rintro e u1 ⟨rfl, hx⟩
    replace bp := Bl.ext hx bp (Nat.succ_pos _)
    replace bq := Bl.ext hx bq (Nat.succ_pos _)
    replace fs := Fz.ext hx fs bs (Nat.succ_pos _)
    replace bs := Bl.ext hx bs (Nat.succ_pos _)
    replace ft := Fz.ext hx ft bt (Nat.succ_pos _)
    replace bt := Bl.ext hx bt (Nat.succ_pos _)
    replace HE := HE.trans hx
    clear hx
    go_wp2_with fail
    have hq := d_Div (HA.out.ext HE) (HB.out.ext HE)
    unfold RetQR at hq
    rw [decide_eq_true HZ.out, if_neg HZ.out, if_neg HZ.out] at hq
    have HQ := hidP hq
    clear hq
    refine (HQ.out).mono ?_
    rintro e u2 ⟨a2q, n2q, c2q, a2r, n2r, c2r, rfl, hs2q, hs2r, hx⟩
    replace bp := Bl.ext hx bp (Nat.succ_pos _)
    replace bq := Bl.ext hx bq (Nat.succ_pos _)
    replace fs := Fz.ext hx fs bs (Nat.succ_pos _)
    replace bs := Bl.ext hx bs (Nat.succ_pos _)
    replace ft := Fz.ext hx ft bt (Nat.succ_pos _)
    replace bt := Bl.ext hx bt (Nat.succ_pos _)
    replace HE := HE.trans hx
    clear hx
    clear HQ
    clear hs2r
    go_wp2_with fail
    refine (d_Make (neg != neg') (hs2q.nu (by have := HDQ.out; omega))).mono ?_
    rw [HX0.out]
    rintro e u3 ⟨a3, n3, c3, rfl, hs3, hx⟩
    replace bp := Bl.ext hx bp (Nat.succ_pos _)
    replace bq := Bl.ext hx bq (Nat.succ_pos _)
    replace fs := Fz.ext hx fs bs (Nat.succ_pos _)
    replace bs := Bl.ext hx bs (Nat.succ_pos _)
    replace ft := Fz.ext hx ft bt (Nat.succ_pos _)
    replace bt := Bl.ext hx bt (Nat.succ_pos _)
    replace hs2q := hs2q.ext hx
    replace HE := HE.trans hx
    clear hx
    replace hs3 : Nc u3 a3 n3 c3 (X0).natAbs := hs3
    go_upto_region 5 with fail
    have lpx := bp.lt (Nat.succ_pos _)
    have lqx := bq.lt (Nat.succ_pos _)
    have lsx := bs.lt (Nat.succ_pos _)
    have ltx := bt.lt (Nat.succ_pos _)
    have l0x := HE.size
    refine absW (fun x2 hx2 => ?_)
    have hx : Ext u3 x2 := by rw [hx2]; exact ((Ext.refl _).alloc _)
    have bx : Bl x2 (u3.heap.size) #[.bool (decide (X0 < 0)), .slice a3 n3 c3] := by rw [hx2]; exact (Bl.new (by simp))
    have fx : Fz x2 (u3.heap.size) := by rw [hx2]; exact (Fz.new (by simp))
    replace bp := Bl.ext hx bp (Nat.succ_pos _)
    replace bq := Bl.ext hx bq (Nat.succ_pos _)
    replace fs := Fz.ext hx fs bs (Nat.succ_pos _)
    replace bs := Bl.ext hx bs (Nat.succ_pos _)
    replace ft := Fz.ext hx ft bt (Nat.succ_pos _)
    replace bt := Bl.ext hx bt (Nat.succ_pos _)
    replace hs2q := hs2q.ext hx
    replace hs3 := hs3.ext hx
    replace HE := HE.trans hx
    clear hx
    clear hx2
    go_cut [11] (fun vr wx => ∃ (gr : Nat) (ar : Option Addr) (nr cr : Nat), vr = .pointer (some ⟨gr, 0, none⟩) ∧ x2.heap.size ≤ gr ∧ Bl wx gr #[.bool (decide (z - X0 * z' < 0)), .slice ar nr cr] ∧ Fz wx gr ∧ Nc wx ar nr cr (z - X0 * z').natAbs ∧ Ext x2 wx)
    case first =>
      have HE0 := hidP HE
      clear HE
      have HE := Ext.refl x2
      refine wp_region_plan (R := Ext) (.q 0 (.q 1 (.q 2 (.br 3 (.br 4 (.l 5 (.b 6 .done)) (.l 5 (.l 4 (.b 6 .done)))) (.l 5 (.l 3 (.l 4 (.b 6 .done)))))))) (by kernel_rfl) (by kernel_rfl) (by kernel_rfl) (by kernel_rfl) Ext.refl (fun _ _ _ => Ext.trans) ?_
      refine absE (fun x3 hx3 => ?_)
      have hx : Ext x2 x3 := by rw [hx3]; exact (Ext.refl _).drew
      replace bp := Bl.ext hx bp (Nat.succ_pos _)
      replace bq := Bl.ext hx bq (Nat.succ_pos _)
      replace fs := Fz.ext hx fs bs (Nat.succ_pos _)
      replace bs := Bl.ext hx bs (Nat.succ_pos _)
      replace ft := Fz.ext hx ft bt (Nat.succ_pos _)
      replace bt := Bl.ext hx bt (Nat.succ_pos _)
      replace fx := Fz.ext hx fx bx (Nat.succ_pos _)
      replace bx := Bl.ext hx bx (Nat.succ_pos _)
      replace hs2q := hs2q.ext hx
      replace hs3 := hs3.ext hx
      replace HE := HE.trans hx
      clear hx
      clear hx3
      repeat (refine wpE_q (v := ?_) rfl rfl (fun u hu => ?_) ?_; rotate_left 1; (focus (have kp := Bl.ext hu bp (Nat.succ_pos _); have kq := Bl.ext hu bq (Nat.succ_pos _); have ks := Bl.ext hu bs (Nat.succ_pos _); have kt := Bl.ext hu bt (Nat.succ_pos _); have kx := Bl.ext hu bx (Nat.succ_pos _); go_simp; (try rfl))); simp only [Act.put, List.setIfInBounds_toArray, List.set_cons_zero, List.set_cons_succ])
      refine wpE_br rfl rfl (fun K hK => ?_) ?_
      · go_simp
        refine (r02_Mul_any _ neg' a3 a' n3 c3 n' cap' X0 z' _ (hs3.wh (by have := HD1.out; omega)) ((HW'.out.ext HE0.out).ext HE)).mono ?_
        rintro e u4 ⟨a4, n4, c4, rfl, hs4, hx⟩
        refine hK.out _ _ hx ?_
        clear hK K
        try simp only [Act.put, List.setIfInBounds_toArray, List.set_cons_zero, List.set_cons_succ]
        replace bp := Bl.ext hx bp (Nat.succ_pos _)
        replace bq := Bl.ext hx bq (Nat.succ_pos _)
        replace fs := Fz.ext hx fs bs (Nat.succ_pos _)
        replace bs := Bl.ext hx bs (Nat.succ_pos _)
        replace ft := Fz.ext hx ft bt (Nat.succ_pos _)
        replace bt := Bl.ext hx bt (Nat.succ_pos _)
        replace fx := Fz.ext hx fx bx (Nat.succ_pos _)
        replace bx := Bl.ext hx bx (Nat.succ_pos _)
        replace hs2q := hs2q.ext hx
        replace hs3 := hs3.ext hx
        replace HE := HE.trans hx
        clear hx
        replace hs4 : Nc u4 a4 n4 c4 (X0 * z').natAbs := hs4
        refine wpE_br rfl rfl (fun K hK => ?_) ?_
        · go_simp
          refine (r02_Sub_any neg _ a a4 n cap n4 c4 z (X0 * z') _ ((HW.out.ext HE0.out).ext HE) (hs4.wh (by have := HD2.out; omega))).mono ?_
          rintro e u5 ⟨a5, n5, c5, rfl, hs5, hx⟩
          refine hK.out _ _ hx ?_
          clear hK K
          try simp only [Act.put, List.setIfInBounds_toArray, List.set_cons_zero, List.set_cons_succ]
          replace bp := Bl.ext hx bp (Nat.succ_pos _)
          replace bq := Bl.ext hx bq (Nat.succ_pos _)
          replace fs := Fz.ext hx fs bs (Nat.succ_pos _)
          replace bs := Bl.ext hx bs (Nat.succ_pos _)
          replace ft := Fz.ext hx ft bt (Nat.succ_pos _)
          replace bt := Bl.ext hx bt (Nat.succ_pos _)
          replace fx := Fz.ext hx fx bx (Nat.succ_pos _)
          replace bx := Bl.ext hx bx (Nat.succ_pos _)
          replace hs2q := hs2q.ext hx
          replace hs3 := hs3.ext hx
          replace hs4 := hs4.ext hx
          replace HE := HE.trans hx
          clear hx
          replace hs5 : Nc u5 a5 n5 c5 (z - X0 * z').natAbs := hs5
          refine wpE_l rfl rfl (fun K hK => ?_)
          go_simp
          refine hK.out _ _ ((Ext.refl _).alloc _) ?_
          clear hK K
          try simp only [Act.put, List.setIfInBounds_toArray, List.set_cons_zero, List.set_cons_succ]
          have lpr := bp.lt (Nat.succ_pos _)
          have lqr := bq.lt (Nat.succ_pos _)
          have lsr := bs.lt (Nat.succ_pos _)
          have ltr := bt.lt (Nat.succ_pos _)
          have lxr := bx.lt (Nat.succ_pos _)
          have l0r := HE.size
          refine absE (fun x4 hx4 => ?_)
          have hx : Ext u5 x4 := by rw [hx4]; exact ((Ext.refl _).alloc _)
          have br : Bl x4 (u5.heap.size) #[.bool false, .slice none 0 0] := by rw [hx4]; exact (Bl.new (by simp))
          have fr : Fz x4 (u5.heap.size) := by rw [hx4]; exact (Fz.new (by simp))
          replace bp := Bl.ext hx bp (Nat.succ_pos _)
          replace bq := Bl.ext hx bq (Nat.succ_pos _)
          replace fs := Fz.ext hx fs bs (Nat.succ_pos _)
          replace bs := Bl.ext hx bs (Nat.succ_pos _)
          replace ft := Fz.ext hx ft bt (Nat.succ_pos _)
          replace bt := Bl.ext hx bt (Nat.succ_pos _)
          replace fx := Fz.ext hx fx bx (Nat.succ_pos _)
          replace bx := Bl.ext hx bx (Nat.succ_pos _)
          replace hs2q := hs2q.ext hx
          replace hs3 := hs3.ext hx
          replace hs4 := hs4.ext hx
          replace hs5 := hs5.ext hx
          replace HE := HE.trans hx
          clear hx
          clear hx4
          refine wpE_b rfl rfl (fun K hK => ?_)
          go_simp
          refine hK.out _ _ ?_
          clear hK K
          try simp only [Act.put, List.setIfInBounds_toArray, List.set_cons_zero, List.set_cons_succ]
          refine absE (fun x5 hx5 => ?_)
          have hbut : But x4 x5 (u5.heap.size) := by rw [hx5]; exact (But.refl _ _).store.store
          have hbn : Bl x5 (u5.heap.size) #[.bool (decide (z - X0 * z' < 0)), .slice a5 n5 c5] := by rw [hx5]; exact (Bl.set (Bl.set br (by simp)) (by simp))
          replace hs2q := hs2q.but br (not_ints2 nb_bool nb_slice) hbut
          replace hs3 := hs3.but br (not_ints2 nb_bool nb_slice) hbut
          replace hs4 := hs4.but br (not_ints2 nb_bool nb_slice) hbut
          replace hs5 := hs5.but br (not_ints2 nb_bool nb_slice) hbut
          replace bp := But.bl hbut bp (Nat.succ_pos _) (by omega)
          replace bq := But.bl hbut bq (Nat.succ_pos _) (by omega)
          replace fs := But.fz hbut fs bs (Nat.succ_pos _) (by omega)
          replace bs := But.bl hbut bs (Nat.succ_pos _) (by omega)
          replace ft := But.fz hbut ft bt (Nat.succ_pos _) (by omega)
          replace bt := But.bl hbut bt (Nat.succ_pos _) (by omega)
          replace fx := But.fz hbut fx bx (Nat.succ_pos _) (by omega)
          replace bx := But.bl hbut bx (Nat.succ_pos _) (by omega)
          replace fr : Fz x5 (u5.heap.size) := by rw [hx5]; exact (Fz.set (Fz.set fr))
          replace HE : Ext x2 x5 := by rw [hx5]; exact ((HE.store (by show x2.heap.size ≤ u5.heap.size; omega) _).store (by show x2.heap.size ≤ u5.heap.size; omega) _)
          clear br hbut hx5
          have br := hbn
          clear hbn
          refine wpE_done ?_
          go_wp2_with fail
          go_meet
          exact ⟨u5.heap.size, a5, n5, c5, rfl, by omega, br, fr, hs5, HE⟩
        · refine wpE_l rfl rfl (fun K hK => ?_)
          go_simp
          refine hK.out _ _ ((Ext.refl _).alloc _) ?_
          clear hK K
          try simp only [Act.put, List.setIfInBounds_toArray, List.set_cons_zero, List.set_cons_succ]
          have lpr := bp.lt (Nat.succ_pos _)
          have lqr := bq.lt (Nat.succ_pos _)
          have lsr := bs.lt (Nat.succ_pos _)
          have ltr := bt.lt (Nat.succ_pos _)
          have lxr := bx.lt (Nat.succ_pos _)
          have l0r := HE.size
          refine absE (fun x4 hx4 => ?_)
          have hx : Ext u4 x4 := by rw [hx4]; exact ((Ext.refl _).alloc _)
          have br : Bl x4 (u4.heap.size) #[.bool false, .slice none 0 0] := by rw [hx4]; exact (Bl.new (by simp))
          have fr : Fz x4 (u4.heap.size) := by rw [hx4]; exact (Fz.new (by simp))
          replace bp := Bl.ext hx bp (Nat.succ_pos _)
          replace bq := Bl.ext hx bq (Nat.succ_pos _)
          replace fs := Fz.ext hx fs bs (Nat.succ_pos _)
          replace bs := Bl.ext hx bs (Nat.succ_pos _)
          replace ft := Fz.ext hx ft bt (Nat.succ_pos _)
          replace bt := Bl.ext hx bt (Nat.succ_pos _)
          replace fx := Fz.ext hx fx bx (Nat.succ_pos _)
          replace bx := Bl.ext hx bx (Nat.succ_pos _)
          replace hs2q := hs2q.ext hx
          replace hs3 := hs3.ext hx
          replace hs4 := hs4.ext hx
          replace HE := HE.trans hx
          clear hx
          clear hx4
          refine wpE_l rfl rfl (fun K hK => ?_)
          go_simp
          refine (r02_Sub_any neg _ a a4 n cap n4 c4 z (X0 * z') _ ((HW.out.ext HE0.out).ext HE) (hs4.wh (by have := HD2.out; omega))).mono ?_
          rintro e u5 ⟨a5, n5, c5, rfl, hs5, hx⟩
          refine hK.out _ _ hx ?_
          clear hK K
          try simp only [Act.put, List.setIfInBounds_toArray, List.set_cons_zero, List.set_cons_succ]
          replace bp := Bl.ext hx bp (Nat.succ_pos _)
          replace bq := Bl.ext hx bq (Nat.succ_pos _)
          replace fs := Fz.ext hx fs bs (Nat.succ_pos _)
          replace bs := Bl.ext hx bs (Nat.succ_pos _)
          replace ft := Fz.ext hx ft bt (Nat.succ_pos _)
          replace bt := Bl.ext hx bt (Nat.succ_pos _)
          replace fx := Fz.ext hx fx bx (Nat.succ_pos _)
          replace bx := Bl.ext hx bx (Nat.succ_pos _)
          replace fr := Fz.ext hx fr br (Nat.succ_pos _)
          replace br := Bl.ext hx br (Nat.succ_pos _)
          replace hs2q := hs2q.ext hx
          replace hs3 := hs3.ext hx
          replace hs4 := hs4.ext hx
          replace HE := HE.trans hx
          clear hx
          replace hs5 : Nc u5 a5 n5 c5 (z - X0 * z').natAbs := hs5
          refine wpE_b rfl rfl (fun K hK => ?_)
          go_simp
          refine hK.out _ _ ?_
          clear hK K
          try simp only [Act.put, List.setIfInBounds_toArray, List.set_cons_zero, List.set_cons_succ]
          refine absE (fun x5 hx5 => ?_)
          have hbut : But u5 x5 (u4.heap.size) := by rw [hx5]; exact (But.refl _ _).store.store
          have hbn : Bl x5 (u4.heap.size) #[.bool (decide (z - X0 * z' < 0)), .slice a5 n5 c5] := by rw [hx5]; exact (Bl.set (Bl.set br (by simp)) (by simp))
          replace hs2q := hs2q.but br (not_ints2 nb_bool nb_slice) hbut
          replace hs3 := hs3.but br (not_ints2 nb_bool nb_slice) hbut
          replace hs4 := hs4.but br (not_ints2 nb_bool nb_slice) hbut
          replace hs5 := hs5.but br (not_ints2 nb_bool nb_slice) hbut
          replace bp := But.bl hbut bp (Nat.succ_pos _) (by omega)
          replace bq := But.bl hbut bq (Nat.succ_pos _) (by omega)
          replace fs := But.fz hbut fs bs (Nat.succ_pos _) (by omega)
          replace bs := But.bl hbut bs (Nat.succ_pos _) (by omega)
          replace ft := But.fz hbut ft bt (Nat.succ_pos _) (by omega)
          replace bt := But.bl hbut bt (Nat.succ_pos _) (by omega)
          replace fx := But.fz hbut fx bx (Nat.succ_pos _) (by omega)
          replace bx := But.bl hbut bx (Nat.succ_pos _) (by omega)
          replace fr : Fz x5 (u4.heap.size) := by rw [hx5]; exact (Fz.set (Fz.set fr))
          replace HE : Ext x2 x5 := by rw [hx5]; exact ((HE.store (by show x2.heap.size ≤ u4.heap.size; omega) _).store (by show x2.heap.size ≤ u4.heap.size; omega) _)
          clear br hbut hx5
          have br := hbn
          clear hbn
          refine wpE_done ?_
          go_wp2_with fail
          go_meet
          exact ⟨u4.heap.size, a5, n5, c5, rfl, by omega, br, fr, hs5, HE⟩
      · refine wpE_l rfl rfl (fun K hK => ?_)
        go_simp
        refine hK.out _ _ ((Ext.refl _).alloc _) ?_
        clear hK K
        try simp only [Act.put, List.setIfInBounds_toArray, List.set_cons_zero, List.set_cons_succ]
        have lpr := bp.lt (Nat.succ_pos _)
        have lqr := bq.lt (Nat.succ_pos _)
        have lsr := bs.lt (Nat.succ_pos _)
        have ltr := bt.lt (Nat.succ_pos _)
        have lxr := bx.lt (Nat.succ_pos _)
        have l0r := HE.size
        refine absE (fun x4 hx4 => ?_)
        have hx : Ext x3 x4 := by rw [hx4]; exact ((Ext.refl _).alloc _)
        have br : Bl x4 (x3.heap.size) #[.bool false, .slice none 0 0] := by rw [hx4]; exact (Bl.new (by simp))
        have fr : Fz x4 (x3.heap.size) := by rw [hx4]; exact (Fz.new (by simp))
        replace bp := Bl.ext hx bp (Nat.succ_pos _)
        replace bq := Bl.ext hx bq (Nat.succ_pos _)
        replace fs := Fz.ext hx fs bs (Nat.succ_pos _)
        replace bs := Bl.ext hx bs (Nat.succ_pos _)
        replace ft := Fz.ext hx ft bt (Nat.succ_pos _)
        replace bt := Bl.ext hx bt (Nat.succ_pos _)
        replace fx := Fz.ext hx fx bx (Nat.succ_pos _)
        replace bx := Bl.ext hx bx (Nat.succ_pos _)
        replace hs2q := hs2q.ext hx
        replace hs3 := hs3.ext hx
        replace HE := HE.trans hx
        clear hx
        clear hx4
        refine wpE_l rfl rfl (fun K hK => ?_)
        go_simp
        refine (r02_Mul_any _ neg' a3 a' n3 c3 n' cap' X0 z' _ (hs3.wh (by have := HD1.out; omega)) ((HW'.out.ext HE0.out).ext HE)).mono ?_
        rintro e u4 ⟨a4, n4, c4, rfl, hs4, hx⟩
        refine hK.out _ _ hx ?_
        clear hK K
        try simp only [Act.put, List.setIfInBounds_toArray, List.set_cons_zero, List.set_cons_succ]
        replace bp := Bl.ext hx bp (Nat.succ_pos _)
        replace bq := Bl.ext hx bq (Nat.succ_pos _)
        replace fs := Fz.ext hx fs bs (Nat.succ_pos _)
        replace bs := Bl.ext hx bs (Nat.succ_pos _)
        replace ft := Fz.ext hx ft bt (Nat.succ_pos _)
        replace bt := Bl.ext hx bt (Nat.succ_pos _)
        replace fx := Fz.ext hx fx bx (Nat.succ_pos _)
        replace bx := Bl.ext hx bx (Nat.succ_pos _)
        replace fr := Fz.ext hx fr br (Nat.succ_pos _)
        replace br := Bl.ext hx br (Nat.succ_pos _)
        replace hs2q := hs2q.ext hx
        replace hs3 := hs3.ext hx
        replace HE := HE.trans hx
        clear hx
        replace hs4 : Nc u4 a4 n4 c4 (X0 * z').natAbs := hs4
        refine wpE_l rfl rfl (fun K hK => ?_)
        go_simp
        refine (r02_Sub_any neg _ a a4 n cap n4 c4 z (X0 * z') _ ((HW.out.ext HE0.out).ext HE) (hs4.wh (by have := HD2.out; omega))).mono ?_
        rintro e u5 ⟨a5, n5, c5, rfl, hs5, hx⟩
        refine hK.out _ _ hx ?_
        clear hK K
        try simp only [Act.put, List.setIfInBounds_toArray, List.set_cons_zero, List.set_cons_succ]
        replace bp := Bl.ext hx bp (Nat.succ_pos _)
        replace bq := Bl.ext hx bq (Nat.succ_pos _)
        replace fs := Fz.ext hx fs bs (Nat.succ_pos _)
        replace bs := Bl.ext hx bs (Nat.succ_pos _)
        replace ft := Fz.ext hx ft bt (Nat.succ_pos _)
        replace bt := Bl.ext hx bt (Nat.succ_pos _)
        replace fx := Fz.ext hx fx bx (Nat.succ_pos _)
        replace bx := Bl.ext hx bx (Nat.succ_pos _)
        replace fr := Fz.ext hx fr br (Nat.succ_pos _)
        replace br := Bl.ext hx br (Nat.succ_pos _)
        replace hs2q := hs2q.ext hx
        replace hs3 := hs3.ext hx
        replace hs4 := hs4.ext hx
        replace HE := HE.trans hx
        clear hx
        replace hs5 : Nc u5 a5 n5 c5 (z - X0 * z').natAbs := hs5
        refine wpE_b rfl rfl (fun K hK => ?_)
        go_simp
        refine hK.out _ _ ?_
        clear hK K
        try simp only [Act.put, List.setIfInBounds_toArray, List.set_cons_zero, List.set_cons_succ]
        refine absE (fun x5 hx5 => ?_)
        have hbut : But u5 x5 (x3.heap.size) := by rw [hx5]; exact (But.refl _ _).store.store
        have hbn : Bl x5 (x3.heap.size) #[.bool (decide (z - X0 * z' < 0)), .slice a5 n5 c5] := by rw [hx5]; exact (Bl.set (Bl.set br (by simp)) (by simp))
        replace hs2q := hs2q.but br (not_ints2 nb_bool nb_slice) hbut
        replace hs3 := hs3.but br (not_ints2 nb_bool nb_slice) hbut
        replace hs4 := hs4.but br (not_ints2 nb_bool nb_slice) hbut
        replace hs5 := hs5.but br (not_ints2 nb_bool nb_slice) hbut
        replace bp := But.bl hbut bp (Nat.succ_pos _) (by omega)
        replace bq := But.bl hbut bq (Nat.succ_pos _) (by omega)
        replace fs := But.fz hbut fs bs (Nat.succ_pos _) (by omega)
        replace bs := But.bl hbut bs (Nat.succ_pos _) (by omega)
        replace ft := But.fz hbut ft bt (Nat.succ_pos _) (by omega)
        replace bt := But.bl hbut bt (Nat.succ_pos _) (by omega)
        replace fx := But.fz hbut fx bx (Nat.succ_pos _) (by omega)
        replace bx := But.bl hbut bx (Nat.succ_pos _) (by omega)
        replace fr : Fz x5 (x3.heap.size) := by rw [hx5]; exact (Fz.set (Fz.set fr))
        replace HE : Ext x2 x5 := by rw [hx5]; exact ((HE.store (by show x2.heap.size ≤ x3.heap.size; omega) _).store (by show x2.heap.size ≤ x3.heap.size; omega) _)
        clear br hbut hx5
        have br := hbn
        clear hbn
        refine wpE_done ?_
        go_wp2_with fail
        go_meet
        exact ⟨x3.heap.size, a5, n5, c5, rfl, by omega, br, fr, hs5, HE⟩
    case rest =>
      obtain ⟨gr, ar, nr, cr, rfl, hgr, br, fr, hsr, hx⟩ := hcut
      have lpr := Nat.lt_of_lt_of_le (bp.lt (Nat.succ_pos _)) hgr
      have lqr := Nat.lt_of_lt_of_le (bq.lt (Nat.succ_pos _)) hgr
      have lsr := Nat.lt_of_lt_of_le (bs.lt (Nat.succ_pos _)) hgr
      have ltr := Nat.lt_of_lt_of_le (bt.lt (Nat.succ_pos _)) hgr
      have lxr := Nat.lt_of_lt_of_le (bx.lt (Nat.succ_pos _)) hgr
      have l0r := Nat.le_trans HE.size hgr
      clear hgr
      replace bp := Bl.ext hx bp (Nat.succ_pos _)
      replace bq := Bl.ext hx bq (Nat.succ_pos _)
      replace fs := Fz.ext hx fs bs (Nat.succ_pos _)
      replace bs := Bl.ext hx bs (Nat.succ_pos _)
      replace ft := Fz.ext hx ft bt (Nat.succ_pos _)
      replace bt := Bl.ext hx bt (Nat.succ_pos _)
      replace fx := Fz.ext hx fx bx (Nat.succ_pos _)
      replace bx := Bl.ext hx bx (Nat.succ_pos _)
      replace hs2q := hs2q.ext hx
      replace hs3 := hs3.ext hx
      replace HE := HE.trans hx
      clear hx
      have hsg := HL2.out
      by_cases hup : neg = true ∧ A % B ≠ 0
      · have HLW := hidP (hsg.1 hup)
        have HSG : Hid (sgn (z - X0 * z') = -1) := hidP (sgn_m1 (by rw [HGL.out, hup.1]; show (-((A % B : Nat) : Int)) < 0; have := hup.2; omega))
        clear hup hsg
        go_wp2_with fail
        refine (r02_Sign_any _ ar nr cr (z - X0 * z') _ (hsr.wh (by have := HD3.out; omega))).mono ?_
        rw [HSG.out]
        rintro e u6 ⟨rfl, hx⟩
        replace bp := Bl.ext hx bp (Nat.succ_pos _)
        replace bq := Bl.ext hx bq (Nat.succ_pos _)
        replace fs := Fz.ext hx fs bs (Nat.succ_pos _)
        replace bs := Bl.ext hx bs (Nat.succ_pos _)
        replace ft := Fz.ext hx ft bt (Nat.succ_pos _)
        replace bt := Bl.ext hx bt (Nat.succ_pos _)
        replace fx := Fz.ext hx fx bx (Nat.succ_pos _)
        replace bx := Bl.ext hx bx (Nat.succ_pos _)
        replace fr := Fz.ext hx fr br (Nat.succ_pos _)
        replace br := Bl.ext hx br (Nat.succ_pos _)
        replace hs2q := hs2q.ext hx
        replace hs3 := hs3.ext hx
        replace hsr := hsr.ext hx
        replace HE := HE.trans hx
        clear hx
        go_wp2_with fail
        refine wp_region_plan (R := Ext) (.q 0 (.q 1 (.q 2 (.q 3 (.q 4 (.q 5 (.l 6 (.l 7 (.l 8 (.b 9 .done)))))))))) (by kernel_rfl) (by kernel_rfl) (by kernel_rfl) (by kernel_rfl) Ext.refl (fun _ _ _ => Ext.trans) ?_
        refine absE (fun x3 hx3 => ?_)
        have hx : Ext u6 x3 := by rw [hx3]; exact (Ext.refl _).drew
        replace bp := Bl.ext hx bp (Nat.succ_pos _)
        replace bq := Bl.ext hx bq (Nat.succ_pos _)
        replace fs := Fz.ext hx fs bs (Nat.succ_pos _)
        replace bs := Bl.ext hx bs (Nat.succ_pos _)
        replace ft := Fz.ext hx ft bt (Nat.succ_pos _)
        replace bt := Bl.ext hx bt (Nat.succ_pos _)
        replace fx := Fz.ext hx fx bx (Nat.succ_pos _)
        replace bx := Bl.ext hx bx (Nat.succ_pos _)
        replace fr := Fz.ext hx fr br (Nat.succ_pos _)
        replace br := Bl.ext hx br (Nat.succ_pos _)
        replace hs2q := hs2q.ext hx
        replace hs3 := hs3.ext hx
        replace hsr := hsr.ext hx
        replace HE := HE.trans hx
        clear hx
        clear hx3
        repeat (refine wpE_q (v := ?_) rfl rfl (fun u hu => ?_) ?_; rotate_left 1; (focus (have kp := Bl.ext hu bp (Nat.succ_pos _); have kq := Bl.ext hu bq (Nat.succ_pos _); have ks := Bl.ext hu bs (Nat.succ_pos _); have kt := Bl.ext hu bt (Nat.succ_pos _); have kx := Bl.ext hu bx (Nat.succ_pos _); have kr := Bl.ext hu br (Nat.succ_pos _); go_simp; (try rfl))); simp only [Act.put, List.setIfInBounds_toArray, List.set_cons_zero, List.set_cons_succ])
        refine wpE_l rfl rfl (fun K hK => ?_)
        go_simp
        refine hK.out _ _ ((Ext.refl _).alloc _) ?_
        clear hK K
        try simp only [Act.put, List.setIfInBounds_toArray, List.set_cons_zero, List.set_cons_succ]
        refine absE (fun x4 hx4 => ?_)
        have hx : Ext x3 x4 := by rw [hx4]; exact ((Ext.refl _).alloc _)
        replace bp := Bl.ext hx bp (Nat.succ_pos _)
        replace bq := Bl.ext hx bq (Nat.succ_pos _)
        replace fs := Fz.ext hx fs bs (Nat.succ_pos _)
        replace bs := Bl.ext hx bs (Nat.succ_pos _)
        replace ft := Fz.ext hx ft bt (Nat.succ_pos _)
        replace bt := Bl.ext hx bt (Nat.succ_pos _)
        replace fx := Fz.ext hx fx bx (Nat.succ_pos _)
        replace bx := Bl.ext hx bx (Nat.succ_pos _)
        replace fr := Fz.ext hx fr br (Nat.succ_pos _)
        replace br := Bl.ext hx br (Nat.succ_pos _)
        replace hs2q := hs2q.ext hx
        replace hs3 := hs3.ext hx
        replace hsr := hsr.ext hx
        replace HE := HE.trans hx
        clear hx
        have hlit : Nc x4 (some ⟨x3.heap.size, 0, none⟩) 1 1 1 := by rw [hx4]; exact Nc.lit1 _ 1 (by omega) (by omega) _
        clear hx4
        refine wpE_l rfl rfl (fun K hK => ?_)
        go_simp
        refine (d_Add (hs2q.nu (by have := HDQ.out; omega)) (hlit.nu (by rw [← hlit.len]; omega))).mono ?_
        rintro e u7 ⟨a7, n7, c7, rfl, hs7, hx⟩
        refine hK.out _ _ hx ?_
        clear hK K
        try simp only [Act.put, List.setIfInBounds_toArray, List.set_cons_zero, List.set_cons_succ]
        replace bp := Bl.ext hx bp (Nat.succ_pos _)
        replace bq := Bl.ext hx bq (Nat.succ_pos _)
        replace fs := Fz.ext hx fs bs (Nat.succ_pos _)
        replace bs := Bl.ext hx bs (Nat.succ_pos _)
        replace ft := Fz.ext hx ft bt (Nat.succ_pos _)
        replace bt := Bl.ext hx bt (Nat.succ_pos _)
        replace fx := Fz.ext hx fx bx (Nat.succ_pos _)
        replace bx := Bl.ext hx bx (Nat.succ_pos _)
        replace fr := Fz.ext hx fr br (Nat.succ_pos _)
        replace br := Bl.ext hx br (Nat.succ_pos _)
        replace hs2q := hs2q.ext hx
        replace hs3 := hs3.ext hx
        replace hsr := hsr.ext hx
        replace hlit := hlit.ext hx
        replace HE := HE.trans hx
        clear hx
        clear hlit
        refine wpE_l rfl rfl (fun K hK => ?_)
        go_simp
        refine (d_Make (neg != neg') (hs7.nu (by have := HD4.out; omega))).mono ?_
        rw [HX1.out]
        rintro e u8 ⟨a8, n8, c8, rfl, hs8, hx⟩
        refine hK.out _ _ hx ?_
        clear hK K
        try simp only [Act.put, List.setIfInBounds_toArray, List.set_cons_zero, List.set_cons_succ]
        replace bp := Bl.ext hx bp (Nat.succ_pos _)
        replace bq := Bl.ext hx bq (Nat.succ_pos _)
        replace fs := Fz.ext hx fs bs (Nat.succ_pos _)
        replace bs := Bl.ext hx bs (Nat.succ_pos _)
        replace ft := Fz.ext hx ft bt (Nat.succ_pos _)
        replace bt := Bl.ext hx bt (Nat.succ_pos _)
        replace fx := Fz.ext hx fx bx (Nat.succ_pos _)
        replace bx := Bl.ext hx bx (Nat.succ_pos _)
        replace fr := Fz.ext hx fr br (Nat.succ_pos _)
        replace br := Bl.ext hx br (Nat.succ_pos _)
        replace hs2q := hs2q.ext hx
        replace hs3 := hs3.ext hx
        replace hsr := hsr.ext hx
        replace hs7 := hs7.ext hx
        replace HE := HE.trans hx
        clear hx
        replace hs8 : Nc u8 a8 n8 c8 (X1).natAbs := hs8
        refine wpE_b rfl rfl (fun K hK => ?_)
        go_simp
        refine hK.out _ _ ?_
        clear hK K
        try simp only [Act.put, List.setIfInBounds_toArray, List.set_cons_zero, List.set_cons_succ]
        refine absE (fun x5 hx5 => ?_)
        have hbut : But u8 x5 (u3.heap.size) := by rw [hx5]; exact (But.refl _ _).store.store
        have hbn : Bl x5 (u3.heap.size) #[.bool (decide (X1 < 0)), .slice a8 n8 c8] := by rw [hx5]; exact (Bl.set (Bl.set bx (by simp)) (by simp))
        replace hs2q := hs2q.but bx (not_ints2 nb_bool nb_slice) hbut
        replace hs3 := hs3.but bx (not_ints2 nb_bool nb_slice) hbut
        replace hsr := hsr.but bx (not_ints2 nb_bool nb_slice) hbut
        replace hs7 := hs7.but bx (not_ints2 nb_bool nb_slice) hbut
        replace hs8 := hs8.but bx (not_ints2 nb_bool nb_slice) hbut
        replace bp := But.bl hbut bp (Nat.succ_pos _) (by omega)
        replace bq := But.bl hbut bq (Nat.succ_pos _) (by omega)
        replace fs := But.fz hbut fs bs (Nat.succ_pos _) (by omega)
        replace bs := But.bl hbut bs (Nat.succ_pos _) (by omega)
        replace ft := But.fz hbut ft bt (Nat.succ_pos _) (by omega)
        replace bt := But.bl hbut bt (Nat.succ_pos _) (by omega)
        replace fr := But.fz hbut fr br (Nat.succ_pos _) (by omega)
        replace br := But.bl hbut br (Nat.succ_pos _) (by omega)
        replace fx : Fz x5 (u3.heap.size) := by rw [hx5]; exact (Fz.set (Fz.set fx))
        replace HE : Ext w x5 := by rw [hx5]; exact ((HE.store (by show w.heap.size ≤ u3.heap.size; omega) _).store (by show w.heap.size ≤ u3.heap.size; omega) _)
        clear bx hbut hx5
        have bx := hbn
        clear hbn
        refine wpE_done ?_
        go_wp2_with fail
        refine wp_region_plan (R := Ext) (.q 0 (.q 1 (.q 2 (.l 3 (.l 4 (.b 5 .done)))))) (by kernel_rfl) (by kernel_rfl) (by kernel_rfl) (by kernel_rfl) Ext.refl (fun _ _ _ => Ext.trans) ?_
        refine absE (fun x6 hx6 => ?_)
        have hx : Ext x5 x6 := by rw [hx6]; exact (Ext.refl _).drew
        replace bp := Bl.ext hx bp (Nat.succ_pos _)
        replace bq := Bl.ext hx bq (Nat.succ_pos _)
        replace fs := Fz.ext hx fs bs (Nat.succ_pos _)
        replace bs := Bl.ext hx bs (Nat.succ_pos _)
        replace ft := Fz.ext hx ft bt (Nat.succ_pos _)
        replace bt := Bl.ext hx bt (Nat.succ_pos _)
        replace fx := Fz.ext hx fx bx (Nat.succ_pos _)
        replace bx := Bl.ext hx bx (Nat.succ_pos _)
        replace fr := Fz.ext hx fr br (Nat.succ_pos _)
        replace br := Bl.ext hx br (Nat.succ_pos _)
        replace hs2q := hs2q.ext hx
        replace hs3 := hs3.ext hx
        replace hsr := hsr.ext hx
        replace hs7 := hs7.ext hx
        replace hs8 := hs8.ext hx
        replace HE := HE.trans hx
        clear hx
        clear hx6
        repeat (refine wpE_q (v := ?_) rfl rfl (fun u hu => ?_) ?_; rotate_left 1; (focus (have kp := Bl.ext hu bp (Nat.succ_pos _); have kq := Bl.ext hu bq (Nat.succ_pos _); have ks := Bl.ext hu bs (Nat.succ_pos _); have kt := Bl.ext hu bt (Nat.succ_pos _); have kx := Bl.ext hu bx (Nat.succ_pos _); have kr := Bl.ext hu br (Nat.succ_pos _); go_simp; (try rfl))); simp only [Act.put, List.setIfInBounds_toArray, List.set_cons_zero, List.set_cons_succ])
        refine wpE_l rfl rfl (fun K hK => ?_)
        go_simp
        refine (r02_Mul_any _ neg' a8 a' n8 c8 n' cap' X1 z' _ (hs8.wh (by have := HD5.out; omega)) (HW'.out.ext HE)).mono ?_
        rintro e u9 ⟨a9, n9, c9, rfl, hs9, hx⟩
        refine hK.out _ _ hx ?_
        clear hK K
        try simp only [Act.put, List.setIfInBounds_toArray, List.set_cons_zero, List.set_cons_succ]
        replace bp := Bl.ext hx bp (Nat.succ_pos _)
        replace bq := Bl.ext hx bq (Nat.succ_pos _)
        replace fs := Fz.ext hx fs bs (Nat.succ_pos _)
        replace bs := Bl.ext hx bs (Nat.succ_pos _)
        replace ft := Fz.ext hx ft bt (Nat.succ_pos _)
        replace bt := Bl.ext hx bt (Nat.succ_pos _)
        replace fx := Fz.ext hx fx bx (Nat.succ_pos _)
        replace bx := Bl.ext hx bx (Nat.succ_pos _)
        replace fr := Fz.ext hx fr br (Nat.succ_pos _)
        replace br := Bl.ext hx br (Nat.succ_pos _)
        replace hs2q := hs2q.ext hx
        replace hs3 := hs3.ext hx
        replace hsr := hsr.ext hx
        replace hs7 := hs7.ext hx
        replace hs8 := hs8.ext hx
        replace HE := HE.trans hx
        clear hx
        replace hs9 : Nc u9 a9 n9 c9 (X1 * z').natAbs := hs9
        refine wpE_l rfl rfl (fun K hK => ?_)
        go_simp
        refine (r02_Sub_any neg _ a a9 n cap n9 c9 z (X1 * z') _ (HW.out.ext HE) (hs9.wh (by have := HD6.out; omega))).mono ?_
        rintro e u10 ⟨a10, n10, c10, rfl, hs10, hx⟩
        refine hK.out _ _ hx ?_
        clear hK K
        try simp only [Act.put, List.setIfInBounds_toArray, List.set_cons_zero, List.set_cons_succ]
        replace bp := Bl.ext hx bp (Nat.succ_pos _)
        replace bq := Bl.ext hx bq (Nat.succ_pos _)
        replace fs := Fz.ext hx fs bs (Nat.succ_pos _)
        replace bs := Bl.ext hx bs (Nat.succ_pos _)
        replace ft := Fz.ext hx ft bt (Nat.succ_pos _)
        replace bt := Bl.ext hx bt (Nat.succ_pos _)
        replace fx := Fz.ext hx fx bx (Nat.succ_pos _)
        replace bx := Bl.ext hx bx (Nat.succ_pos _)
        replace fr := Fz.ext hx fr br (Nat.succ_pos _)
        replace br := Bl.ext hx br (Nat.succ_pos _)
        replace hs2q := hs2q.ext hx
        replace hs3 := hs3.ext hx
        replace hsr := hsr.ext hx
        replace hs7 := hs7.ext hx
        replace hs8 := hs8.ext hx
        replace hs9 := hs9.ext hx
        replace HE := HE.trans hx
        clear hx
        replace hs10 : Nc u10 a10 n10 c10 (z - X1 * z').natAbs := hs10
        refine wpE_b rfl rfl (fun K hK => ?_)
        go_simp
        refine hK.out _ _ ?_
        clear hK K
        try simp only [Act.put, List.setIfInBounds_toArray, List.set_cons_zero, List.set_cons_succ]
        refine absE (fun x7 hx7 => ?_)
        have hbut : But u10 x7 (gr) := by rw [hx7]; exact (But.refl _ _).store.store
        have hbn : Bl x7 (gr) #[(.bool (decide (z - X1 * z' < 0))), .slice a10 n10 c10] := by rw [hx7]; exact (Bl.set (Bl.set br (by simp)) (by simp))
        replace hs2q := hs2q.but br (not_ints2 nb_bool nb_slice) hbut
        replace hs3 := hs3.but br (not_ints2 nb_bool nb_slice) hbut
        replace hsr := hsr.but br (not_ints2 nb_bool nb_slice) hbut
        replace hs7 := hs7.but br (not_ints2 nb_bool nb_slice) hbut
        replace hs8 := hs8.but br (not_ints2 nb_bool nb_slice) hbut
        replace hs9 := hs9.but br (not_ints2 nb_bool nb_slice) hbut
        replace hs10 := hs10.but br (not_ints2 nb_bool nb_slice) hbut
        replace bp := But.bl hbut bp (Nat.succ_pos _) (by omega)
        replace bq := But.bl hbut bq (Nat.succ_pos _) (by omega)
        replace fs := But.fz hbut fs bs (Nat.succ_pos _) (by omega)
        replace bs := But.bl hbut bs (Nat.succ_pos _) (by omega)
        replace ft := But.fz hbut ft bt (Nat.succ_pos _) (by omega)
        replace bt := But.bl hbut bt (Nat.succ_pos _) (by omega)
        replace fx := But.fz hbut fx bx (Nat.succ_pos _) (by omega)
        replace bx := But.bl hbut bx (Nat.succ_pos _) (by omega)
        replace fr : Fz x7 (gr) := by rw [hx7]; exact (Fz.set (Fz.set fr))
        replace HE : Ext w x7 := by rw [hx7]; exact ((HE.store (by show w.heap.size ≤ gr; omega) _).store (by show w.heap.size ≤ gr; omega) _)
        clear br hbut hx7
        have br := hbn
        clear hbn
        refine wpE_done ?_
        go_wp2_with fail
        have hmx : u3.heap.size ∉ [w.heap.size + 1 + 1, w.heap.size + 1 + 1 + 1] := by simp; omega
        have hmr : gr ∉ [w.heap.size + 1 + 1, w.heap.size + 1 + 1 + 1] := by simp; omega
        refine wp_region_plan (R := ButS [w.heap.size + 1 + 1, w.heap.size + 1 + 1 + 1]) (.q 0 (.q 1 (.l 2 (.b 3 (.q 4 .done))))) (by kernel_rfl) (by kernel_rfl) (by kernel_rfl) (by kernel_rfl) (ButS.refl _) (ButS.trans _) ?_
        refine absE (fun x8 hx8 => ?_)
        have hx : Ext x7 x8 := by rw [hx8]; exact (Ext.refl _).drew
        replace bp := Bl.ext hx bp (Nat.succ_pos _)
        replace bq := Bl.ext hx bq (Nat.succ_pos _)
        replace fs := Fz.ext hx fs bs (Nat.succ_pos _)
        replace bs := Bl.ext hx bs (Nat.succ_pos _)
        replace ft := Fz.ext hx ft bt (Nat.succ_pos _)
        replace bt := Bl.ext hx bt (Nat.succ_pos _)
        replace fx := Fz.ext hx fx bx (Nat.succ_pos _)
        replace bx := Bl.ext hx bx (Nat.succ_pos _)
        replace fr := Fz.ext hx fr br (Nat.succ_pos _)
        replace br := Bl.ext hx br (Nat.succ_pos _)
        replace hs2q := hs2q.ext hx
        replace hs3 := hs3.ext hx
        replace hsr := hsr.ext hx
        replace hs7 := hs7.ext hx
        replace hs8 := hs8.ext hx
        replace hs9 := hs9.ext hx
        replace hs10 := hs10.ext hx
        replace HE := HE.trans hx
        clear hx
        clear hx8
        repeat (refine wpE_q (v := ?_) rfl rfl (fun u hu => ?_) ?_; rotate_left 1; (focus (have kx := ButS.bl hu bx (Nat.succ_pos _) hmx; have kr := ButS.bl hu br (Nat.succ_pos _) hmr; go_simp; (try rfl))); simp only [Act.put, List.setIfInBounds_toArray, List.set_cons_zero, List.set_cons_succ])
        refine wpE_l rfl rfl (fun K hK => ?_)
        go_simp
        refine hK.out _ _ (((ButS.refl _ _).store (by simp)).store (by simp)) ?_
        clear hK K
        try simp only [Act.put, List.setIfInBounds_toArray, List.set_cons_zero, List.set_cons_succ]
        refine absE (fun x9 hx9 => ?_)
        have hbut : But x8 x9 (w.heap.size + 1 + 1) := by rw [hx9]; exact (But.refl _ _).store.store
        have hbn : Bl x9 (w.heap.size + 1 + 1) #[.bool (decide (X1 < 0)), .slice a8 n8 c8] := by rw [hx9]; exact (Bl.set (Bl.set bs (by simp)) (by simp))
        replace hs2q := hs2q.but bs (not_ints2 nb_bool nb_slice) hbut
        replace hs3 := hs3.but bs (not_ints2 nb_bool nb_slice) hbut
        replace hsr := hsr.but bs (not_ints2 nb_bool nb_slice) hbut
        replace hs7 := hs7.but bs (not_ints2 nb_bool nb_slice) hbut
        replace hs8 := hs8.but bs (not_ints2 nb_bool nb_slice) hbut
        replace hs9 := hs9.but bs (not_ints2 nb_bool nb_slice) hbut
        replace hs10 := hs10.but bs (not_ints2 nb_bool nb_slice) hbut
        replace bp := But.bl hbut bp (Nat.succ_pos _) (by omega)
        replace bq := But.bl hbut bq (Nat.succ_pos _) (by omega)
        replace ft := But.fz hbut ft bt (Nat.succ_pos _) (by omega)
        replace bt := But.bl hbut bt (Nat.succ_pos _) (by omega)
        replace fx := But.fz hbut fx bx (Nat.succ_pos _) (by omega)
        replace bx := But.bl hbut bx (Nat.succ_pos _) (by omega)
        replace fr := But.fz hbut fr br (Nat.succ_pos _) (by omega)
        replace br := But.bl hbut br (Nat.succ_pos _) (by omega)
        replace fs : Fz x9 (w.heap.size + 1 + 1) := by rw [hx9]; exact (Fz.set (Fz.set fs))
        replace HE : Ext w x9 := by rw [hx9]; exact ((HE.store (by show w.heap.size ≤ w.heap.size + 1 + 1; omega) _).store (by show w.heap.size ≤ w.heap.size + 1 + 1; omega) _)
        clear bs hbut hx9
        have bs := hbn
        clear hbn
        refine wpE_b rfl rfl (fun K hK => ?_)
        go_simp
        refine hK.out _ _ ?_
        clear hK K
        try simp only [Act.put, List.setIfInBounds_toArray, List.set_cons_zero, List.set_cons_succ]
        refine absE (fun x10 hx10 => ?_)
        have hbut : But x9 x10 (w.heap.size + 1 + 1 + 1) := by rw [hx10]; exact (But.refl _ _).store.store
        have hbn : Bl x10 (w.heap.size + 1 + 1 + 1) #[.bool (decide (z - X1 * z' < 0)), .slice a10 n10 c10] := by rw [hx10]; exact (Bl.set (Bl.set bt (by simp)) (by simp))
        replace hs2q := hs2q.but bt (not_ints2 nb_bool nb_slice) hbut
        replace hs3 := hs3.but bt (not_ints2 nb_bool nb_slice) hbut
        replace hsr := hsr.but bt (not_ints2 nb_bool nb_slice) hbut
        replace hs7 := hs7.but bt (not_ints2 nb_bool nb_slice) hbut
        replace hs8 := hs8.but bt (not_ints2 nb_bool nb_slice) hbut
        replace hs9 := hs9.but bt (not_ints2 nb_bool nb_slice) hbut
        replace hs10 := hs10.but bt (not_ints2 nb_bool nb_slice) hbut
        replace bp := But.bl hbut bp (Nat.succ_pos _) (by omega)
        replace bq := But.bl hbut bq (Nat.succ_pos _) (by omega)
        replace fs := But.fz hbut fs bs (Nat.succ_pos _) (by omega)
        replace bs := But.bl hbut bs (Nat.succ_pos _) (by omega)
        replace fx := But.fz hbut fx bx (Nat.succ_pos _) (by omega)
        replace bx := But.bl hbut bx (Nat.succ_pos _) (by omega)
        replace fr := But.fz hbut fr br (Nat.succ_pos _) (by omega)
        replace br := But.bl hbut br (Nat.succ_pos _) (by omega)
        replace ft : Fz x10 (w.heap.size + 1 + 1 + 1) := by rw [hx10]; exact (Fz.set (Fz.set ft))
        replace HE : Ext w x10 := by rw [hx10]; exact ((HE.store (by show w.heap.size ≤ w.heap.size + 1 + 1 + 1; omega) _).store (by show w.heap.size ≤ w.heap.size + 1 + 1 + 1; omega) _)
        clear bt hbut hx10
        have bt := hbn
        clear hbn
        repeat (refine wpE_q (v := ?_) rfl rfl (fun u hu => ?_) ?_; rotate_left 1; (focus (go_simp; (try rfl))); simp only [Act.put, List.setIfInBounds_toArray, List.set_cons_zero, List.set_cons_succ])
        refine wpE_done ?_
        go_wp2_with fail
        refine bodyPost_cells2_tmp rfl rfl rfl Try.underlying97 rfl (by kernel_rfl) (by kernel_rfl) (bl_two bs) (bl_two bt) rfl rfl ?_
        refine RetWD.of (q := X1) (r := z - X1 * z') HLW.out.1 ?_ HZ1.out rfl rfl hs8 hs10 HE
        rw [HZM.out, Int.emod_def, HLW.out.1, Int.mul_comm]
      · have HLW := hidP (hsg.2 hup)
        have hnn : 0 ≤ sgn (z - X0 * z') := sgn_nn (by have h1 := (hsg.2 hup).2; have h2 := (hsg.2 hup).1; rw [← h2, Int.mul_comm, ← Int.emod_def, h1]; omega)
        generalize hsv : sgn (z - X0 * z') = sv at *
        have HSV := hidP hsv
        clear hup hsg hsv
        go_wp2_with fail
        refine (r02_Sign_any _ ar nr cr (z - X0 * z') _ (hsr.wh (by have := HD3.out; omega))).mono ?_
        rw [HSV.out]
        rintro e u6 ⟨rfl, hx⟩
        replace bp := Bl.ext hx bp (Nat.succ_pos _)
        replace bq := Bl.ext hx bq (Nat.succ_pos _)
        replace fs := Fz.ext hx fs bs (Nat.succ_pos _)
        replace bs := Bl.ext hx bs (Nat.succ_pos _)
        replace ft := Fz.ext hx ft bt (Nat.succ_pos _)
        replace bt := Bl.ext hx bt (Nat.succ_pos _)
        replace fx := Fz.ext hx fx bx (Nat.succ_pos _)
        replace bx := Bl.ext hx bx (Nat.succ_pos _)
        replace fr := Fz.ext hx fr br (Nat.succ_pos _)
        replace br := Bl.ext hx br (Nat.succ_pos _)
        replace hs2q := hs2q.ext hx
        replace hs3 := hs3.ext hx
        replace hsr := hsr.ext hx
        replace HE := HE.trans hx
        clear hx
        go_wp2_with fail
        have hmx : u3.heap.size ∉ [w.heap.size + 1 + 1, w.heap.size + 1 + 1 + 1] := by simp; omega
        have hmr : gr ∉ [w.heap.size + 1 + 1, w.heap.size + 1 + 1 + 1] := by simp; omega
        refine wp_region_plan (R := ButS [w.heap.size + 1 + 1, w.heap.size + 1 + 1 + 1]) (.q 0 (.q 1 (.l 2 (.b 3 (.q 4 .done))))) (by kernel_rfl) (by kernel_rfl) (by kernel_rfl) (by kernel_rfl) (ButS.refl _) (ButS.trans _) ?_
        refine absE (fun x3 hx3 => ?_)
        have hx : Ext u6 x3 := by rw [hx3]; exact (Ext.refl _).drew
        replace bp := Bl.ext hx bp (Nat.succ_pos _)
        replace bq := Bl.ext hx bq (Nat.succ_pos _)
        replace fs := Fz.ext hx fs bs (Nat.succ_pos _)
        replace bs := Bl.ext hx bs (Nat.succ_pos _)
        replace ft := Fz.ext hx ft bt (Nat.succ_pos _)
        replace bt := Bl.ext hx bt (Nat.succ_pos _)
        replace fx := Fz.ext hx fx bx (Nat.succ_pos _)
        replace bx := Bl.ext hx bx (Nat.succ_pos _)
        replace fr := Fz.ext hx fr br (Nat.succ_pos _)
        replace br := Bl.ext hx br (Nat.succ_pos _)
        replace hs2q := hs2q.ext hx
        replace hs3 := hs3.ext hx
        replace hsr := hsr.ext hx
        replace HE := HE.trans hx
        clear hx
        clear hx3
        repeat (refine wpE_q (v := ?_) rfl rfl (fun u hu => ?_) ?_; rotate_left 1; (focus (have kx := ButS.bl hu bx (Nat.succ_pos _) hmx; have kr := ButS.bl hu br (Nat.succ_pos _) hmr; go_simp; (try rfl))); simp only [Act.put, List.setIfInBounds_toArray, List.set_cons_zero, List.set_cons_succ])
        refine wpE_l rfl rfl (fun K hK => ?_)
        go_simp
        refine hK.out _ _ (((ButS.refl _ _).store (by simp)).store (by simp)) ?_
        clear hK K
        try simp only [Act.put, List.setIfInBounds_toArray, List.set_cons_zero, List.set_cons_succ]
        refine absE (fun x4 hx4 => ?_)
        have hbut : But x3 x4 (w.heap.size + 1 + 1) := by rw [hx4]; exact (But.refl _ _).store.store
        have hbn : Bl x4 (w.heap.size + 1 + 1) #[.bool (decide (X0 < 0)), .slice a3 n3 c3] := by rw [hx4]; exact (Bl.set (Bl.set bs (by simp)) (by simp))
        replace hs2q := hs2q.but bs (not_ints2 nb_bool nb_slice) hbut
        replace hs3 := hs3.but bs (not_ints2 nb_bool nb_slice) hbut
        replace hsr := hsr.but bs (not_ints2 nb_bool nb_slice) hbut
        replace bp := But.bl hbut bp (Nat.succ_pos _) (by omega)
        replace bq := But.bl hbut bq (Nat.succ_pos _) (by omega)
        replace ft := But.fz hbut ft bt (Nat.succ_pos _) (by omega)
        replace bt := But.bl hbut bt (Nat.succ_pos _) (by omega)
        replace fx := But.fz hbut fx bx (Nat.succ_pos _) (by omega)
        replace bx := But.bl hbut bx (Nat.succ_pos _) (by omega)
        replace fr := But.fz hbut fr br (Nat.succ_pos _) (by omega)
        replace br := But.bl hbut br (Nat.succ_pos _) (by omega)
        replace fs : Fz x4 (w.heap.size + 1 + 1) := by rw [hx4]; exact (Fz.set (Fz.set fs))
        replace HE : Ext w x4 := by rw [hx4]; exact ((HE.store (by show w.heap.size ≤ w.heap.size + 1 + 1; omega) _).store (by show w.heap.size ≤ w.heap.size + 1 + 1; omega) _)
        clear bs hbut hx4
        have bs := hbn
        clear hbn
        refine wpE_b rfl rfl (fun K hK => ?_)
        go_simp
        refine hK.out _ _ ?_
        clear hK K
        try simp only [Act.put, List.setIfInBounds_toArray, List.set_cons_zero, List.set_cons_succ]
        refine absE (fun x5 hx5 => ?_)
        have hbut : But x4 x5 (w.heap.size + 1 + 1 + 1) := by rw [hx5]; exact (But.refl _ _).store.store
        have hbn : Bl x5 (w.heap.size + 1 + 1 + 1) #[.bool (decide (z - X0 * z' < 0)), .slice ar nr cr] := by rw [hx5]; exact (Bl.set (Bl.set bt (by simp)) (by simp))
        replace hs2q := hs2q.but bt (not_ints2 nb_bool nb_slice) hbut
        replace hs3 := hs3.but bt (not_ints2 nb_bool nb_slice) hbut
        replace hsr := hsr.but bt (not_ints2 nb_bool nb_slice) hbut
        replace bp := But.bl hbut bp (Nat.succ_pos _) (by omega)
        replace bq := But.bl hbut bq (Nat.succ_pos _) (by omega)
        replace fs := But.fz hbut fs bs (Nat.succ_pos _) (by omega)
        replace bs := But.bl hbut bs (Nat.succ_pos _) (by omega)
        replace fx := But.fz hbut fx bx (Nat.succ_pos _) (by omega)
        replace bx := But.bl hbut bx (Nat.succ_pos _) (by omega)
        replace fr := But.fz hbut fr br (Nat.succ_pos _) (by omega)
        replace br := But.bl hbut br (Nat.succ_pos _) (by omega)
        replace ft : Fz x5 (w.heap.size + 1 + 1 + 1) := by rw [hx5]; exact (Fz.set (Fz.set ft))
        replace HE : Ext w x5 := by rw [hx5]; exact ((HE.store (by show w.heap.size ≤ w.heap.size + 1 + 1 + 1; omega) _).store (by show w.heap.size ≤ w.heap.size + 1 + 1 + 1; omega) _)
        clear bt hbut hx5
        have bt := hbn
        clear hbn
        repeat (refine wpE_q (v := ?_) rfl rfl (fun u hu => ?_) ?_; rotate_left 1; (focus (go_simp; (try rfl))); simp only [Act.put, List.setIfInBounds_toArray, List.set_cons_zero, List.set_cons_succ])
        refine wpE_done ?_
        go_wp2_with fail
        refine bodyPost_cells2_tmp rfl rfl rfl Try.underlying97 rfl (by kernel_rfl) (by kernel_rfl) (bl_two bs) (bl_two bt) rfl rfl ?_
        refine RetWD.of (q := X0) (r := z - X0 * z') HLW.out.1 ?_ HZ1.out rfl rfl hs3 hsr HE
        rw [HZM.out, Int.emod_def, HLW.out.1, Int.mul_comm]

end Go.Proofs.Ytlhaepcnhkaclaa

namespace Go.Proofs.Ytlhaepcnhkaclaa
set_option linter.unusedVariables false
open Go Go.RowKit

theorem wh_of {w : World} {neg : Bool} {a : Option Addr} {n cap : Nat} {l : List Nat} (hs : Sl w a n cap (ints .u32 l)) (hl : Ws l) (hn : n ≤ 549755813888) : WhIn w neg a n cap (wz neg (val B32 l)) ∧ dl (wz neg (val B32 l)).natAbs ≤ n := by
  refine ⟨⟨⟨l, hs, hl, rfl⟩, hn⟩, ?_⟩
  rw [wz_abs]
  have := dig_val_len B32_two l hl
  rw [hs.int_len] at this
  exact this
theorem zmod_len {z z' : Int} : dl (zmod z z').natAbs ≤ dl z'.natAbs := by
  unfold zmod
  split
  · simp [dl_zero]
  · next h =>
    refine dl_mono ?_
    have h1 := Int.emod_nonneg z h
    have h2 := Int.emod_lt z h
    omega
theorem zdiv_len {z z' : Int} : dl (z / z').natAbs ≤ dl z.natAbs := dl_mono (Int.natAbs_ediv_le_natAbs z z')

end Go.Proofs.Ytlhaepcnhkaclaa
