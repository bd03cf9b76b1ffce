/- Joined: W3 W4 W5 W6 W9 W10 W13 V1 V2 VH. -/
import Derived.Test.YtmibjfkpchncgaaM4
import Derived.Test.YtmibjfkpchncgaaM1
import Derived.Deep.DeepCutAuto
namespace Go.Proofs.Ytmibjfkpchncgaa
set_option linter.unusedVariables false
open Go Go.RowKit

end Go.Proofs.Ytmibjfkpchncgaa

namespace Go.Proofs.Ytmibjfkpchncgaa
set_option linter.unusedVariables false
open Go Go.RowKit

set_option maxRecDepth 100000 in
set_option maxHeartbeats 2000000 in
/-- A quotient by one word. -/
theorem nat_Div_one (a a' : Option Addr) (n cap n' cap' : Nat) (x : List Nat) (d : Nat) (w : World) (hs : Sl w a n cap (ints .u32 x)) (hs' : Sl w a' n' cap' (ints .u32 [d])) (hx : Ws x) (hn : n ≤ 1099511627776) (hd : 0 < d) (hd2 : d ≤ 4294967295) (hge : d ≤ val B32 x) :
    Calls Try.prog 30 #[.slice a n cap, .slice a' n' cap'] w fun e w' => ∃ a2 n2 c2 a3 n3 c3, e = .returned (.tuple #[.slice a2 n2 c2, .slice a3 n3 c3, .bool true]) ∧ Sl w' a2 n2 c2 (ints .u32 (dig B32 (val B32 x / d))) ∧ Sl w' a3 n3 c3 (ints .u32 (dig B32 (val B32 x % d))) ∧ Ext w w' := by
  obtain rfl : n' = 1 := hs'.int_len.symm
  have hv : val B32 [d] = d := by simp [val]
  have hwd : Ws [d] := by intro y hy; simp at hy; subst hy; unfold B32; omega
  have hsz := nat_size_any a' 1 cap' [d] w hs' hwd (by omega)
  rw [hv, dig_one hd hd2] at hsz
  have hcm := fun u h h' => nat_Cmp_any a a' n cap 1 cap' x [d] u h h' hx hwd hn (by omega)
  rw [hv] at hcm
  obtain ⟨c, hc⟩ : ∃ c, cmpI (val B32 x) d = c := ⟨_, rfl⟩
  have hc0 : 0 ≤ c := by rw [← hc]; exact cmpI_ge hge
  rw [hc] at hcm
  obtain ⟨b, off, rfl, hcell⟩ := hs'.at_int (by omega)
  have hcd : w.cell? ⟨b, off, none⟩ = some (.int .u32 (d : Int)) := by have := hcell 0 (by simp); simpa using this
  have HSZ := hidP hsz; have HCM := hidP hcm; have HS := hidP hs; have HS' := hidP hs'
  clear hsz hcm hcell hc hs hs' hv
  go_enter Try.func30, Try.ntmps30
  go_wp2_with fail
  refine (nat_size_any a n cap x _ HS.out hx (by omega)).mono ?_
  rintro e w' ⟨rfl, rfl⟩
  go_wp2_with fail
  refine HSZ.out.mono ?_
  rintro e w' ⟨rfl, rfl⟩
  generalize (dig B32 (val B32 x)).length = lx at *
  go_wp2_with fail
  refine (HCM.out _ HS.out HS'.out).mono ?_
  rintro e w1 ⟨rfl, he1⟩
  have hcd1 := he1.cell' hcd
  go_wp2_with fail
  refine (nat_small_any a n cap x d _ (HS.out.ext he1) hx (by omega) (by omega) hd2).mono ?_
  have hmd : val B32 x % d ≤ 4294967295 := by have := Nat.mod_lt (val B32 x) hd; omega
  rintro e w2 ⟨g2, n2, c2, rfl, hs2, he2, hb2⟩
  generalize hrr : val B32 x % d = r at *
  generalize hqq : val B32 x / d = q at *
  have HRR := hidP hrr; have HQQ := hidP hqq
  clear hcd1 hrr hqq
  go_wp2_with fail
  refine (nat_Of_any r _ (by omega)).mono ?_
  rintro e w3 ⟨a3, n3, c3, rfl, hs3, he3⟩
  go_wp2_with fail
  go_ret3
  exact ⟨_, _, _, _, _, _, rfl, by rw [HQQ.out]; exact hs2.ext he3, by rw [HRR.out]; exact hs3, he1.trans (he2.trans he3)⟩

end Go.Proofs.Ytmibjfkpchncgaa

namespace Go.Proofs.Ytmibjfkpchncgaa
set_option linter.unusedVariables false
open Go Go.RowKit

theorem bodyPost_cells2_tmp {P : Program} {fn : Func} {R : Ending → World → Prop} {a : Act} {w : World} {p p' q : Tmp} {ty : TypeId} {d : TypeDesc} {g g' : Nat} {cs cs' : Array Value} {v : Value} (h : fn.results = #[.cell p ty, .cell p' ty, .tmp q])
    (hp : a.tmps.getD p undef = .pointer (some ⟨g, 0, none⟩)) (hp2 : a.tmps.getD p' undef = .pointer (some ⟨g', 0, none⟩)) (hu : P.underlying ty = some d) (hd : (match d with | .struct _ | .array _ _ => true | _ => false) = true) (hi : (P.info? ty).map (·.size) = some cs.size) (hi' : (P.info? ty).map (·.size) = some cs'.size)
    (hg : ∀ j v, cs.toList[j]? = some v → w.cell? ⟨g, j, none⟩ = some v) (hg' : ∀ j v, cs'.toList[j]? = some v → w.cell? ⟨g', j, none⟩ = some v) (hq : a.tmps.getD q undef = v) (hdef : a.defers = []) (hR : R (.returned (.tuple #[.agg cs, .agg cs', v])) w) : bodyPost P fn R .ret a w := by
  refine bodyPost_ret (v := .tuple #[.agg cs, .agg cs', v]) ?_ hdef hR
  have hp' : a.tmps[p]?.getD undef = .pointer (some ⟨g, 0, none⟩) := by simpa using hp
  have hp3 : a.tmps[p']?.getD undef = .pointer (some ⟨g', 0, none⟩) := by simpa using hp2
  have hq' : a.tmps[q]?.getD undef = v := by simpa using hq
  simp [results, h, hp', hp3, hq', asAddr, run_loadVar_cells w g ty cs d hg hu hd hi, run_loadVar_cells w g' ty cs' d hg' hu hd hi']

end Go.Proofs.Ytmibjfkpchncgaa

namespace Go.Proofs.Ytmibjfkpchncgaa
set_option linter.unusedVariables false
open Go Go.RowKit

theorem live_m4 : textZ (-4) = ⟨#[45, 52]⟩ := by
  have h : decD 4 = [4] := decD_small (by omega)
  unfold textZ
  rw [if_pos (by decide)]
  show _ ++ decS 4 = _
  unfold decS
  rw [h]; rfl
theorem live_1 : textZ 1 = ⟨#[49]⟩ := by
  have h : decD 1 = [1] := decD_small (by omega)
  unfold textZ
  rw [if_neg (by decide)]
  show decS 1 = _
  unfold decS
  rw [h]; rfl

end Go.Proofs.Ytmibjfkpchncgaa

namespace Go.Proofs.Ytmibjfkpchncgaa
set_option linter.unusedVariables false
open Go Go.RowKit

end Go.Proofs.Ytmibjfkpchncgaa

namespace Go.Proofs.Ytmibjfkpchncgaa
set_option linter.unusedVariables false
open Go Go.RowKit

theorem WhIn.not {w : World} {neg : Bool} {a : Option Addr} {n cap : Nat} {z : Int} (h : WhIn w neg a n cap z) : WhIn w (!neg) a n cap (-z) :=
  let ⟨⟨l, h1, h2, h3⟩, h4⟩ := h; ⟨⟨l, h1, h2, by rw [wz_not, h3]⟩, h4⟩

theorem wz_mul (b b' : Bool) (x y : Nat) : wz (b != b') (x * y) = wz b x * wz b' y := by
  unfold wz
  cases b <;> cases b' <;> simp [Int.neg_mul, Int.mul_neg]

theorem cmpI_sgn (x y : Nat) : cmpI x y = sgn ((x : Int) - (y : Int)) := by
  unfold cmpI sgn
  split
  · rw [if_neg (by omega), if_pos (by omega)]
  · split
    · rw [if_neg (by omega), if_neg (by omega)]
    · rw [if_pos (by omega)]

theorem sgn_cases (z : Int) : (sgn z = -1 ∧ z < 0) ∨ (sgn z = 0 ∧ z = 0) ∨ (sgn z = 1 ∧ 0 < z) := by
  unfold sgn
  split
  · exact .inr (.inl ⟨rfl, by assumption⟩)
  · split
    · exact .inl ⟨rfl, by assumption⟩
    · exact .inr (.inr ⟨rfl, by omega⟩)

end Go.Proofs.Ytmibjfkpchncgaa

namespace Go.Proofs.Ytmibjfkpchncgaa
set_option linter.unusedVariables false
open Go Go.RowKit

end Go.Proofs.Ytmibjfkpchncgaa

namespace Go.Proofs.Ytmibjfkpchncgaa
set_option linter.unusedVariables false
open Go Go.RowKit

theorem absB {P : Program} {fn : Func} {R : Ending → World → Prop} {ex : Exit} {a : Act} {w : World} (h : ∀ u, u = w → bodyPost P fn R ex a u) : bodyPost P fn R ex a w := h w rfl
theorem Nc.but {w u : World} {g : Nat} {cs : Array Value} {a : Option Addr} {n cap V : Nat} (h : Nc w a n cap V) (hb : Bl w g cs) (hcs : ∀ (j : Nat) (x : Int), cs[j]? ≠ some (Value.int .u32 x)) (hu : But w u g) : Nc u a n cap V := Sl.but h hb hcs hu
theorem bl_two {w : World} {g : Nat} {v0 v1 : Value} (h : Bl w g #[v0, v1]) : ∀ j v, (#[v0, v1] : Array Value).toList[j]? = some v → w.cell? ⟨g, j, none⟩ = some v := by
  intro j v hv
  rw [h j]
  simpa using hv
theorem WhIn.nu {w : World} {neg : Bool} {a : Option Addr} {n cap : Nat} {z : Int} (h : WhIn w neg a n cap z) : Nu w a n cap z.natAbs := by
  obtain ⟨⟨l, hs, hl, hz⟩, hn⟩ := h
  have h2 : z.natAbs = val B32 l := by rw [← hz]; unfold wz; split <;> omega
  exact ⟨⟨l, hs, hl, h2.symm⟩, by omega⟩
theorem WhIn.sgn {w : World} {neg : Bool} {a : Option Addr} {n cap : Nat} {z : Int} (h : WhIn w neg a n cap z) : z = wz neg z.natAbs := by
  obtain ⟨⟨l, hs, hl, hz⟩, hn⟩ := h
  have h2 : z.natAbs = val B32 l := by rw [← hz]; unfold wz; split <;> omega
  rw [h2]; exact hz.symm
theorem nb_bool {b : Bool} : ∀ x : Int, Value.bool b ≠ .int .u32 x := fun x h => by cases h
theorem nb_slice {a : Option Addr} {n c : Nat} : ∀ x : Int, Value.slice a n c ≠ .int .u32 x := fun x h => by cases h

theorem wz_false_nn (m : Nat) : decide (wz false m < 0) = false := decide_eq_false (by show ¬ ((m : Nat) : Int) < 0; omega)

/-- What is left: at least 0, below the divisor. -/
def zmod (z z' : Int) : Int := if z' = 0 then 0 else z % z'
/-- A quotient and a rest, with signs. -/
def RetWD (w : World) (z z' : Int) (e : Ending) (w' : World) : Prop :=
  ∃ a n cap a' n' cap', e = .returned (.tuple #[.agg #[.bool (decide (z / z' < 0)), .slice a n cap], .agg #[.bool (decide (zmod z z' < 0)), .slice a' n' cap'], .bool (decide (z' ≠ 0))]) ∧ Nc w' a n cap (z / z').natAbs ∧ Nc w' a' n' cap' (zmod z z').natAbs ∧ Ext w w'
theorem RetWD.of {w : World} {z z' q r : Int} {ok b c : Bool} {a a' : Option Addr} {n cap n' cap' : Nat} {u : World} (hq : z / z' = q) (hr : zmod z z' = r) (hok : decide (z' ≠ 0) = ok) (hb : decide (q < 0) = b) (hc : decide (r < 0) = c)
    (h1 : Nc u a n cap q.natAbs) (h2 : Nc u a' n' cap' r.natAbs) (he : Ext w u) : RetWD w z z' (.returned (.tuple #[.agg #[.bool b, .slice a n cap], .agg #[.bool c, .slice a' n' cap'], .bool ok])) u := by
  subst hq; subst hr; subst hok; subst hb; subst hc
  exact ⟨a, n, cap, a', n', cap', rfl, h1, h2, he⟩

theorem div_up {A B : Nat} (hB : 0 < B) (h0 : A % B ≠ 0) : (-(A : Int)) / (B : Int) = -((A / B + 1 : Nat) : Int) ∧ (-(A : Int)) % (B : Int) = ((B - A % B : Nat) : Int) := by
  have hm := Nat.mod_lt A hB
  have hd := Nat.div_add_mod A B
  refine (Int.ediv_emod_unique (by omega)).2 ⟨?_, by omega, by omega⟩
  have e : ((B - A % B : Nat) : Int) = (B : Int) - ((A % B : Nat) : Int) := by omega
  rw [e, Int.mul_neg]
  have e2 : (B : Int) * ((A / B + 1 : Nat) : Int) = ((B * (A / B) : Nat) : Int) + (B : Int) := by
    rw [Int.natCast_add, Int.mul_add, Int.natCast_mul]; simp
  rw [e2]
  omega
theorem div_even {A B : Nat} (hB : 0 < B) (h0 : A % B = 0) : (-(A : Int)) / (B : Int) = -((A / B : Nat) : Int) ∧ (-(A : Int)) % (B : Int) = 0 := by
  have hd := Nat.div_add_mod A B
  refine (Int.ediv_emod_unique (by omega)).2 ⟨?_, by omega, by omega⟩
  rw [Int.mul_neg, ← Int.natCast_mul]
  omega
theorem div_pos' {A B : Nat} : ((A : Int)) / (B : Int) = ((A / B : Nat) : Int) ∧ ((A : Int)) % (B : Int) = ((A % B : Nat) : Int) := ⟨rfl, rfl⟩
/-- The quotient and the rest, by the sizes. -/
theorem div_law {neg neg' : Bool} {A B : Nat} (hB : B ≠ 0) : (neg = true ∧ A % B ≠ 0 → wz neg A / wz neg' B = wz (neg != neg') (A / B + 1) ∧ wz neg A % wz neg' B = ((B - A % B : Nat) : Int)) ∧
    (¬ (neg = true ∧ A % B ≠ 0) → wz neg A / wz neg' B = wz (neg != neg') (A / B) ∧ wz neg A % wz neg' B = ((A % B : Nat) : Int)) := by
  have hB' : 0 < B := Nat.pos_of_ne_zero hB
  constructor
  · rintro ⟨rfl, h0⟩
    have h := div_up hB' h0
    cases neg'
    · simpa [wz] using h
    · simp only [wz]
      simp only [if_true, Int.ediv_neg, Int.emod_neg, h.1, h.2]
      simp
  · intro h0
    cases neg
    · cases neg'
      · simp [wz]
      · simp [wz]
    · have h1 : A % B = 0 := by simpa using h0
      have h := div_even hB' h1
      cases neg'
      · simp [wz, h.1, h.2, h1]
      · simp only [wz]
        simp only [if_true, Int.ediv_neg, Int.emod_neg, h.1, h.2, h1]
        simp

end Go.Proofs.Ytmibjfkpchncgaa

namespace Go.Proofs.Ytmibjfkpchncgaa
set_option linter.unusedVariables false
open Go Go.RowKit

theorem absE {R : World → World → Prop} {P : Program} {ops : Array Oper} {Q : Exit → Act → World → Prop} {p : Plan} {a : Act} {w : World} (h : ∀ u, u = w → wpE R P ops Q p a u) : wpE R P ops Q p a w := h w rfl
theorem Nc.wh {w : World} {a : Option Addr} {n cap : Nat} {z : Int} (h : Nc w a n cap z.natAbs) (hb : dl z.natAbs ≤ 549755813888) : WhIn w (decide (z < 0)) a n cap z :=
  ⟨⟨_, h, Ws.dig _, by rw [val_dig B32_two]; exact wz_canon z⟩, by rw [h.len]; exact hb⟩
theorem wz_abs (b : Bool) (m : Nat) : (wz b m).natAbs = m := by unfold wz; split <;> omega
theorem dz_sub {z z' : Int} {N : Nat} (h : dl z.natAbs ≤ N) (h' : dl z'.natAbs ≤ N) : dl (z - z').natAbs ≤ N + 1 :=
  Nat.le_trans (dl_mono (by omega : (z - z').natAbs ≤ z.natAbs + z'.natAbs)) (dl_add h h')
theorem dz_add {z z' : Int} {N : Nat} (h : dl z.natAbs ≤ N) (h' : dl z'.natAbs ≤ N) : dl (z + z').natAbs ≤ N + 1 :=
  Nat.le_trans (dl_mono (by omega : (z + z').natAbs ≤ z.natAbs + z'.natAbs)) (dl_add h h')
theorem dz_mul (z z' : Int) : dl (z * z').natAbs ≤ dl z.natAbs + dl z'.natAbs := by rw [Int.natAbs_mul]; exact dl_mul _ _
theorem sgn_m1 {z : Int} (h : z < 0) : sgn z = -1 := by
  rcases sgn_cases z with h1 | h1 | h1 <;> omega
theorem sgn_nn {z : Int} (h : 0 ≤ z) : 0 ≤ sgn z := by
  rcases sgn_cases z with h1 | h1 | h1 <;> omega
/-- The first guess and what it leaves. -/
theorem guess_law {neg neg' : Bool} {A B : Nat} : wz neg A - wz (neg != neg') (A / B) * wz neg' B = wz neg (A % B) := by
  have hd := Nat.div_add_mod A B
  have e : wz (neg != neg') (A / B) * wz neg' B = wz neg (A / B * B) := by
    rw [← wz_mul]
    cases neg <;> cases neg' <;> rfl
  rw [e, Nat.mul_comm]
  generalize A / B = q at *
  generalize A % B = r at *
  generalize B * q = s at *
  unfold wz
  cases neg <;> simp <;> omega

/-- All blocks but some are as they were. -/
def ButS (S : List Nat) (w u : World) : Prop := w.heap.size ≤ u.heap.size ∧ ∀ k, k < w.heap.size → k ∉ S → u.heap[k]? = w.heap[k]?
theorem ButS.refl (S : List Nat) (w : World) : ButS S w w := ⟨Nat.le_refl _, fun _ _ _ => rfl⟩
theorem ButS.trans (S : List Nat) (w u v : World) (h : ButS S w u) (h' : ButS S u v) : ButS S w v := ⟨Nat.le_trans h.1 h'.1, fun k hk hg => (h'.2 k (Nat.lt_of_lt_of_le hk h.1) hg).trans (h.2 k hk hg)⟩
theorem ButS.store {S : List Nat} {w u : World} {g j : Nat} {v : Value} (h : ButS S w u) (hg : g ∈ S) : ButS S w (u.setCell ⟨g, j, none⟩ v) :=
  ⟨Nat.le_trans h.1 (by simp), fun k hk hk2 => (heap_setCell_other u ⟨g, j, none⟩ k v (fun e => hk2 (by simp at e; rw [e]; exact hg))).trans (h.2 k hk hk2)⟩
theorem ButS.bl {S : List Nat} {w u : World} {h : Nat} {cs : Array Value} (hb : ButS S w u) (hh : Bl w h cs) (h0 : 0 < cs.size) (hne : h ∉ S) : Bl u h cs := fun j =>
  (World.cell?_of_block (a := ⟨h, j, none⟩) (hb.2 h (hh.lt h0) hne)).trans (hh j)

end Go.Proofs.Ytmibjfkpchncgaa

namespace Go.Proofs.Ytmibjfkpchncgaa
set_option linter.unusedVariables false
open Go Go.RowKit

theorem wh_of {w : World} {neg : Bool} {a : Option Addr} {n cap : Nat} {l : List Nat} (hs : Sl w a n cap (ints .u32 l)) (hl : Ws l) (hn : n ≤ 549755813888) : WhIn w neg a n cap (wz neg (val B32 l)) ∧ dl (wz neg (val B32 l)).natAbs ≤ n := by
  refine ⟨⟨⟨l, hs, hl, rfl⟩, hn⟩, ?_⟩
  rw [wz_abs]
  have := dig_val_len B32_two l hl
  rw [hs.int_len] at this
  exact this
theorem zmod_len {z z' : Int} : dl (zmod z z').natAbs ≤ dl z'.natAbs := by
  unfold zmod
  split
  · simp [dl_zero]
  · next h =>
    refine dl_mono ?_
    have h1 := Int.emod_nonneg z h
    have h2 := Int.emod_lt z h
    omega
theorem zdiv_len {z z' : Int} : dl (z / z').natAbs ≤ dl z.natAbs := dl_mono (Int.natAbs_ediv_le_natAbs z z')

end Go.Proofs.Ytmibjfkpchncgaa
