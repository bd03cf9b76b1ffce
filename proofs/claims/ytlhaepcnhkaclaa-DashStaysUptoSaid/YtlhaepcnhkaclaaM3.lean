/- Joined: B1 B2 B3 B4 K2 K3 K6 K7 K8 K9. -/
import Derived.Test.YtlhaepcnhkaclaaM2
import Derived.Test.YtlhaepcnhkaclaaM1
import Derived.Test.YtlhaepcnhkaclaaShelf
import Derived.Deep.DeepCutAuto
namespace Go.Proofs.Ytlhaepcnhkaclaa
set_option linter.unusedVariables false
open Go Go.RowKit

theorem T_u64' : SlT Try.prog 158 132 (.int .u64 0) 8 :=
  let ⟨i, h1, h2, h3, h4⟩ := info_parts (P := Try.prog) (e := 132) (z := .int .u64 0) (size := 1) (bytes := 8) (by kernel_rfl); ⟨Try.underlying158, i, h1, h2, h3, h4, rfl⟩
theorem T_u32' : SlT Try.prog 95 133 (.int .u32 0) 4 :=
  let ⟨i, h1, h2, h3, h4⟩ := info_parts (P := Try.prog) (e := 133) (z := .int .u32 0) (size := 1) (bytes := 4) (by kernel_rfl); ⟨Try.underlying95, i, h1, h2, h3, h4, rfl⟩

theorem ret_int2 {k j : IntKind} {a b c d : Int} (h1 : a = b) (h2 : c = d) : Ending.returned (.tuple #[.int k a, .int j c]) = .returned (.tuple #[.int k b, .int j d]) := by rw [h1, h2]

theorem bits_Len32_any (x : Nat) (w : World) (hx : x ≤ 4294967295) :
    Calls Try.prog 94 #[.int .u32 x] w fun e w' => e = .returned (.int .i64 (bitlen x : Nat)) ∧ w = w' := by
  refine (Try.bits_Len32 x w (by omega) (by omega)).mono ?_
  rintro e w' ⟨rfl, rfl⟩
  refine ⟨ret_int ?_, rfl⟩
  rw [Int.toNat_natCast, Lib.bitLen, bitLen_eq 64 x (by omega)]

end Go.Proofs.Ytlhaepcnhkaclaa

namespace Go.Proofs.Ytlhaepcnhkaclaa
set_option linter.unusedVariables false
open Go Go.RowKit

/-- What the walks take of a number's words: its digits X, as many as count; the list reads on with noughts. -/
theorem dig_get {l : List Nat} (hl : Ws l) (i : Nat) (hi : i < (dig B32 (val B32 l)).length) : ∃ h : i < l.length, l[i] = (dig B32 (val B32 l)).getD i 0 := by
  have h1 := dig_val_len B32_two l hl
  have h2 := take_dig_len B32_two l hl
  refine ⟨by omega, ?_⟩
  rw [List.getD_eq_getElem?_getD]
  have : (dig B32 (val B32 l))[i]? = some l[i] := by
    rw [← h2, List.getElem?_take]
    simp [hi, show i < l.length by omega]
  rw [this]; rfl

theorem cut_sl32 {w : World} {a : Option Addr} {n cap : Nat} {D : List Nat} (hsl : Sl w a n cap (ints .u32 D)) (hD : Ws D) : Sl w a (dig B32 (val B32 D)).length cap (ints .u32 (dig B32 (val B32 D))) := by
  have ht := take_dig_len B32_two D hD
  have hx := hsl.take (dig B32 (val B32 D)).length (by have := dig_val_len B32_two D hD; have := hsl.int_len; omega)
  rw [ints_take, ht] at hx
  exact hx

theorem dig_lt_of_len {B a b : Nat} (hB : 2 ≤ B) (h : (dig B a).length < (dig B b).length) : a < b := by
  rcases Nat.lt_or_ge a b with h1 | h1
  · exact h1
  · have := dig_mono hB h1; omega

theorem canon_of_len {B : Nat} (hB : 2 ≤ B) {D : List Nat} (hD : ∀ x ∈ D, x < B) (h : D.length = 0 ∨ B ^ (D.length - 1) ≤ val B D) : dig B (val B D) = D := by
  have h1 := take_dig_len hB D hD
  have h2 := dig_val_len hB D hD
  have h3 : (dig B (val B D)).length = D.length := by
    rcases h with h | h
    · omega
    · rcases Nat.lt_or_ge (dig B (val B D)).length D.length with h4 | h4
      · have := le_of_dig_len hB (Nat.le_sub_one_of_lt h4); omega
      · omega
  rw [← h1, h3, List.take_length]

end Go.Proofs.Ytlhaepcnhkaclaa

namespace Go.Proofs.Ytlhaepcnhkaclaa
set_option linter.unusedVariables false
open Go Go.RowKit

theorem getD_zero_of_lt' {B : Nat} (hB : 0 < B) : ∀ (m : Nat) (D : List Nat), (∀ x ∈ D, x < B) → val B D < B ^ m → ∀ j, m ≤ j → D.getD j 0 = 0
  | 0, D, hD, h, j, _ => by
    rw [Nat.pow_zero] at h
    have h0 : val B D = 0 := by omega
    have key : ∀ (D : List Nat), val B D = 0 → ∀ j, D.getD j 0 = 0 := by
      intro D
      induction D with
      | nil => intro _ j; simp
      | cons x r ih =>
        intro h j
        simp only [val] at h
        have hx : x = 0 := by omega
        have hr : val B r = 0 := by
          have : B * val B r = 0 := by omega
          rcases Nat.mul_eq_zero.1 this with h | h
          · omega
          · exact h
        cases j with
        | zero => simp [hx]
        | succ j => simpa using ih hr j
    exact key D h0 j
  | m + 1, D, hD, h, 0, hj => by omega
  | m + 1, D, hD, h, j + 1, hj => by
    rw [← getD_tail]
    refine getD_zero_of_lt' hB m D.tail (fun x hx => hD x (List.mem_of_mem_tail hx)) ?_ j (by omega)
    rw [val_head B D, Nat.pow_succ, Nat.mul_comm] at h
    have : B * val B D.tail < B * B ^ m := by rw [Nat.mul_comm B (B ^ m)]; rw [Nat.mul_comm] at h; omega
    exact Nat.lt_of_mul_lt_mul_left this

theorem mul_step' {B P V V' d c x y v R : Nat} (hv : v = x * y + d + c) (hset : V' + P * d = V + P * (v % B)) (h : V + P * c = R) : V' + P * B * (v / B) = R + P * (x * y) := by
  have := Nat.div_add_mod v B
  have e : P * (v % B) + P * B * (v / B) = P * v := by rw [Nat.mul_assoc, ← Nat.mul_add, Nat.add_comm, this]
  have e2 : P * v = P * (x * y) + P * d + P * c := by rw [hv, Nat.mul_add, Nat.mul_add]
  omega

end Go.Proofs.Ytlhaepcnhkaclaa

namespace Go.Proofs.Ytlhaepcnhkaclaa
set_option linter.unusedVariables false
open Go Go.RowKit

theorem val_drop_cons (B : Nat) (X : List Nat) (i : Nat) (h : i < X.length) : val B (X.drop i) = X.getD i 0 + B * val B (X.drop (i + 1)) := by
  rw [List.drop_eq_getElem_cons h, val, List.getD_eq_getElem?_getD]
  simp [h]

/-- A block of values of a type. -/
def BlkT (w : World) (g : Nat) (e : TypeId) : Prop := ∃ cur fr, w.heap[g]? = some (.cells cur e fr)
theorem BlkT.of_row {w : World} {B e g n cap m : Nat} {xs : List Value} (h : w.ownsRow B e 1 (.slice (some ⟨g, 0, none⟩) n cap) m xs) : BlkT w g e := by
  rcases h.2 with ⟨hbad, _⟩ | ⟨g', cap', cur, hv, hg, hh, _⟩
  · cases hbad
  · simp only [Value.slice.injEq, Option.some.injEq, Addr.mk.injEq, and_true] at hv
    obtain ⟨rfl, _⟩ := hv
    exact ⟨_, _, hh⟩
theorem BlkT.lt {w : World} {g : Nat} {e : TypeId} (h : BlkT w g e) : g < w.heap.size := by
  obtain ⟨cur, fr, hh⟩ := h
  rcases Nat.lt_or_ge g w.heap.size with h | h
  · exact h
  · rw [Array.getElem?_eq_none h] at hh; cases hh
theorem BlkT.other {w : World} {g : Nat} {e e' : TypeId} {B n : Nat} {v : Value} {xs : List Value} (h : BlkT w g e) (hr : w.ownsRow B e' 1 v n xs) (hne : e ≠ e') : v.ownBlock ≠ some g := by
  intro hk
  rcases hr.2 with ⟨rfl, _⟩ | ⟨g', cap', cur, rfl, hg, hh, _⟩
  · simp [Value.ownBlock] at hk
  · simp [Value.ownBlock] at hk
    subst hk
    obtain ⟨cur', fr, h2⟩ := h
    rw [hh] at h2
    cases h2
    exact hne rfl
theorem BlkT.grown {w w' : World} {g : Nat} {e : TypeId} {row : Option Nat} (h : BlkT w g e) (hg : w.grownBy w' row) (hr : row ≠ some g) : BlkT w' g e := by
  have hl := h.lt
  obtain ⟨cur, fr, h2⟩ := h
  exact ⟨cur, fr, (hg.block g hl (fun e => hr e.symm)).trans h2⟩
theorem BlkT.ext {w w' : World} {g : Nat} {e : TypeId} (h : BlkT w g e) (he : Ext w w') : BlkT w' g e := by
  have hl := h.lt
  obtain ⟨cur, fr, h2⟩ := h
  exact ⟨cur, fr, (he.block g hl).trans h2⟩
theorem Sl.grown {w w' : World} {g off n cap : Nat} {xs : List Value} {row : Option Nat} (h : Sl w (some ⟨g, off, none⟩) n cap xs) (hl : g < w.heap.size) (hg : w.grownBy w' row) (hr : row ≠ some g) : Sl w' (some ⟨g, off, none⟩) n cap xs := by
  refine ⟨h.1, h.2.1, h.2.2.1, fun h0 => ?_⟩
  obtain ⟨b, o, ha, hc⟩ := h.2.2.2 h0
  simp only [Option.some.injEq, Addr.mk.injEq, and_true] at ha
  obtain ⟨rfl, rfl⟩ := ha
  exact ⟨g, off, rfl, fun i u hu => (World.cell?_of_block (w := w) (hg.block g hl (fun e => hr e.symm))).trans (hc i u hu)⟩

/-- The quotient's words and the rest. -/
def RetSmall (w : World) (x by_ : Nat) (e : Ending) (w' : World) : Prop :=
  ∃ g n cap, e = .returned (.tuple #[.slice (some ⟨g, 0, none⟩) n cap, .int .u32 (x % by_ : Nat)]) ∧ Sl w' (some ⟨g, 0, none⟩) n cap (ints .u32 (dig B32 (x / by_))) ∧ Ext w w' ∧ BlkT w' g 133

end Go.Proofs.Ytlhaepcnhkaclaa

namespace Go.Proofs.Ytlhaepcnhkaclaa
set_option linter.unusedVariables false
open Go Go.RowKit

/-- 'make([]T, l, c)'. -/
theorem wpList_make2 {P : Program} {ops : Array Oper} {rest : List Oper} {o : Oper} {a : Act} {Q : Exit → Act → World → Prop} {W w : World} {t e : TypeId} {z : Value} {bytes : Nat} (hT : SlT P t e z bytes)
    (hgd : o.guard = none) (x y : Operand) (ho : o.op = .makeSlice t x y) {kl kc : IntKind} {l n : Nat} (hx : a.eval x = .int kl (l : Int)) (hy : a.eval y = .int kc (n : Int)) (he : Ext W w) (hln : l ≤ n) (hn : n ≤ 17592186044416) (hb' : bytes ≤ 8) (hzc : z.cells = #[z])
    (h : ∀ w', w'.ownsRow W.heap.size e 1 (.slice (some ⟨w.heap.size, 0, none⟩) l n) l (List.replicate l z) → Ext W w' → w'.heap.size = w.heap.size + 1 → wpList P ops Q rest (a.put o.dst (.slice (some ⟨w.heap.size, 0, none⟩) l n)) w') :
    wpList P ops Q (o :: rest) a w := by
  obtain ⟨ht, i, hi, hz, hsz, hby, hzs⟩ := hT
  refine wpList_plain hgd fun K hK => ?_
  have hr := run_make (P := P) w t e i z ht hi hz kl kc l n (by omega) (by omega) (by
    have h1 : bytes * n ≤ 281474976710656 := Nat.le_trans (Nat.mul_le_mul hb' hn) (by decide)
    have h2 : ((i.bytes * n : Nat) : Int) ≤ 281474976710656 := by rw [hby]; omega
    rwa [Int.natCast_mul] at h2) (by omega)
  simp only [Int.toNat_natCast] at hr
  unfold Oper.wp execOp
  simp only [ho, hx, hy, Sem.run_bind, Sem.run_pure, hr, Result.andThen_ok]
  refine hK _ _ (h _ ?_ (he.alloc _) (by simp))
  rw [hsz]
  have hl : (madeCells z.cells (n * 1)).toList = List.replicate n z := by
    rw [Nat.mul_one, hzc, toList_madeCells_one]
  refine ⟨by simp, .inr ⟨w.heap.size, n, madeCells z.cells (n * 1), rfl, he.size, by show (w.heap.push _)[w.heap.size]? = _; simp, hln, by unfold maxLen; omega, by simp [madeCells], ?_⟩⟩
  rw [hl, Nat.mul_one, List.take_replicate, Nat.min_eq_left hln]

theorem orsh (p m c : Nat) (hp : p ≤ 4294967295) (hm : m ≤ 31) (hc : c < 2 ^ m) : bits .or .u64 (IntKind.u64.wrap ((p : Int) * 2 ^ m)) (c : Int) = ((p * 2 ^ m + c : Nat) : Int) := by
  have hM : 2 ^ m ≤ 2 ^ 31 := Nat.pow_le_pow_right (by decide) hm
  have hpm : p * 2 ^ m ≤ 4294967295 * 2 ^ 31 := Nat.mul_le_mul hp hM
  have e : (p : Int) * 2 ^ m = ((p * 2 ^ m : Nat) : Int) := by rw [Int.natCast_mul, Int.natCast_pow]; rfl
  rw [e, IntWalk.u64_in _ (by omega)]
  have h1 := u64_or_nat (p * 2 ^ m) c (by omega) (by omega)
  have h2 : p * 2 ^ m ||| c = p * 2 ^ m + c := by
    have := Nat.shiftLeft_add_eq_or_of_lt (i := m) (b := c) hc p
    rw [Nat.shiftLeft_eq] at this
    exact this.symm
  rw [h2] at h1
  exact h1
theorem shl_hi {p m c : Nat} (hp : p ≤ 4294967295) (hm : m ≤ 31) (hc : c < 2 ^ m) : (p * 2 ^ m + c) / 4294967296 < 2 ^ m ∧ p * 2 ^ m + c ≤ 18446744073709551615 := by
  have hM : 2 ^ m ≤ 2 ^ 31 := Nat.pow_le_pow_right (by decide) hm
  have h1 : p * 2 ^ m + c < 4294967296 * 2 ^ m := by
    have : (p + 1) * 2 ^ m ≤ 4294967296 * 2 ^ m := Nat.mul_le_mul_right _ (by omega)
    rw [Nat.add_mul] at this; omega
  refine ⟨(Nat.div_lt_iff_lt_mul (by decide)).2 (by omega), ?_⟩
  have : 4294967296 * 2 ^ m ≤ 4294967296 * 2 ^ 31 := Nat.mul_le_mul_left _ hM
  omega

end Go.Proofs.Ytlhaepcnhkaclaa

namespace Go.Proofs.Ytlhaepcnhkaclaa
set_option linter.unusedVariables false
open Go Go.RowKit

theorem shl32_out {V : Nat} {k : Int} (h : k > 4096 ∨ k < -4096) : shl32 V k = [] := by unfold shl32; rw [if_pos h]
theorem shl32_zero (k : Int) : shl32 0 k = [] := by unfold shl32; split <;> (try split) <;> simp [dig_zero]
theorem shl32_up {V m : Nat} (h : m ≤ 4096) : shl32 V (m : Int) = dig B32 (V * 2 ^ m) := by unfold shl32; rw [if_neg (by omega), if_pos (by omega), Int.toNat_natCast]
theorem shl32_down {V m : Nat} (h : m ≤ 4096) : shl32 V (-(m : Int)) = dig B32 (V / 2 ^ m) := by
  unfold shl32
  rw [if_neg (by omega)]
  by_cases h0 : m = 0
  · subst h0; simp
  · rw [if_neg (by omega), show (- -(m : Int)).toNat = m by omega]
theorem or_hi (p q : Nat) (hp : p ≤ 4294967295) (hq : q ≤ 4294967295) : bits .or .u64 (p : Int) ((q : Int) * 4294967296) = ((p + 4294967296 * q : Nat) : Int) := by
  have h1 := u64_or_nat p (q * 4294967296) (by omega) (by omega)
  have h2 : p ||| q * 4294967296 = p + 4294967296 * q := by
    have := Nat.shiftLeft_add_eq_or_of_lt (i := 32) (b := p) (by omega) q
    rw [Nat.shiftLeft_eq] at this
    rw [Nat.or_comm, ← this]; omega
  rw [h2] at h1
  exact h1

theorem lo_shr (p q less : Nat) (hp : p ≤ 4294967295) (hq : q ≤ 4294967295) : bits .and .u64 (((p : Int) + 4294967296 * (q : Int)) / 2 ^ less) 4294967295 = (((p + 4294967296 * q) / 2 ^ less % 4294967296 : Nat) : Int) := by
  have e : ((p : Int) + 4294967296 * (q : Int)) / 2 ^ less = (((p + 4294967296 * q) / 2 ^ less : Nat) : Int) := by
    rw [Int.natCast_ediv, Int.natCast_add, Int.natCast_mul, Int.natCast_pow]; rfl
  rw [e]
  exact lo32 _ (Nat.le_trans (Nat.div_le_self _ _) (by omega))
theorem lo_shr1 (p less : Nat) (hp : p ≤ 4294967295) : bits .and .u64 ((p : Int) / 2 ^ less) 4294967295 = (((p + 4294967296 * 0) / 2 ^ less % 4294967296 : Nat) : Int) := by
  have e : (p : Int) / 2 ^ less = (((p + 4294967296 * 0) / 2 ^ less : Nat) : Int) := by
    rw [Int.natCast_ediv, Int.natCast_pow]; rfl
  rw [e]
  exact lo32 _ (Nat.le_trans (Nat.div_le_self _ _) (by omega))

theorem shl_len {V m N M : Nat} (h : V < B32 ^ N) (hm : m ≤ 32 * M) : (dig B32 (V * 2 ^ m)).length ≤ N + M := by
  refine dig_len_le B32_two ?_
  have h2 : 2 ^ m ≤ 2 ^ (32 * M) := Nat.pow_le_pow_right (by decide) hm
  have h3 : 2 ^ (32 * M) = B32 ^ M := by rw [Nat.pow_mul]; rfl
  rw [Nat.pow_add, ← h3]
  exact Nat.lt_of_lt_of_le (Nat.mul_lt_mul_of_pos_right h (Nat.two_pow_pos _)) (Nat.mul_le_mul_left _ h2)
theorem shl32_len {k : Int} (x : List Nat) (hx : Ws x) : (shl32 (val B32 x) k).length ≤ x.length + 128 := by
  unfold shl32
  split
  · simp
  · split
    · exact shl_len (val_lt (B := B32) (by decide) x hx) (by omega)
    · have h1 := dig_mono B32_two (Nat.div_le_self (val B32 x) (2 ^ (-k).toNat))
      have h2 := dig_val_len B32_two x hx
      omega

end Go.Proofs.Ytlhaepcnhkaclaa

namespace Go.Proofs.Ytlhaepcnhkaclaa
set_option linter.unusedVariables false
open Go Go.RowKit

/-- What 'take' leaves. -/
def TakeR (W w : World) (g N i n : Nat) (D Y : List Nat) (q : Nat) (e : Ending) (w' : World) : Prop :=
  ∃ (D' : List Nat) (br : Nat), e = .returned (.bool (decide (br = 0))) ∧ w'.ownsRow W.heap.size 133 1 (.slice (some ⟨g, 0, none⟩) N N) N (ints .u32 D') ∧ Ext W w' ∧ But w w' g ∧ Ws D' ∧
    D'.take i = D.take i ∧ D'.drop (i + n + 1) = D.drop (i + n + 1) ∧ br ≤ 1 ∧ val B32 ((D'.drop i).take (n + 1)) + q * val B32 Y = val B32 ((D.drop i).take (n + 1)) + B32 ^ (n + 1) * br

/-- What 'give' leaves. -/
def GiveR (W w : World) (g N i n : Nat) (D Y : List Nat) (e : Ending) (w' : World) : Prop :=
  e = .returned (.tuple #[]) ∧ ∃ (D' : List Nat) (c : Nat), w'.ownsRow W.heap.size 133 1 (.slice (some ⟨g, 0, none⟩) N N) N (ints .u32 D') ∧ Ext W w' ∧ But w w' g ∧ Ws D' ∧
    D'.take i = D.take i ∧ D'.drop (i + n + 1) = D.drop (i + n + 1) ∧ c ≤ 1 ∧ val B32 ((D'.drop i).take (n + 1)) + B32 ^ (n + 1) * c = val B32 ((D.drop i).take (n + 1)) + val B32 Y

end Go.Proofs.Ytlhaepcnhkaclaa

namespace Go.Proofs.Ytlhaepcnhkaclaa
set_option linter.unusedVariables false
open Go Go.RowKit

theorem two_top {B : Nat} (hB : 0 < B) {l : List Nat} {j : Nat} (hl : l.length = j + 2) (h : ∀ x ∈ l, x < B) : val B l = (l.getD (j + 1) 0 * B + l.getD j 0) * B ^ j + val B (l.take j) ∧ val B (l.take j) < B ^ j := by
  constructor
  · have h1 := val_take_snoc B l (j + 1)
    rw [show j + 1 + 1 = j + 2 from rfl, List.take_of_length_le (by omega), val_take_snoc] at h1
    rw [h1]
    generalize l.getD (j + 1) 0 = b
    generalize l.getD j 0 = c
    have e2 : B ^ (j + 1) * b = b * B * B ^ j := by rw [Nat.pow_succ, Nat.mul_comm, Nat.mul_comm (B ^ j), ← Nat.mul_assoc]
    have e3 : B ^ j * c = c * B ^ j := Nat.mul_comm _ _
    rw [e2, e3, Nat.add_mul]
    omega
  · have := val_lt hB (l.take j) (fun x hx => h x (List.mem_of_mem_take hx))
    rwa [List.length_take, Nat.min_eq_left (by omega)] at this
theorem three_top {B : Nat} (hB : 0 < B) {l : List Nat} {j : Nat} (hl : l.length = j + 3) (h : ∀ x ∈ l, x < B) : val B l = ((l.getD (j + 2) 0 * B + l.getD (j + 1) 0) * B + l.getD j 0) * B ^ j + val B (l.take j) ∧ val B (l.take j) < B ^ j := by
  constructor
  · have h1 := val_take_snoc B l (j + 2)
    rw [show j + 2 + 1 = j + 3 from rfl, List.take_of_length_le (by omega), val_take_snoc, val_take_snoc] at h1
    rw [h1]
    generalize l.getD (j + 2) 0 = a
    generalize l.getD (j + 1) 0 = b
    generalize l.getD j 0 = c
    have e1 : B ^ (j + 2) * a = a * B * B * B ^ j := by rw [Nat.pow_succ, Nat.pow_succ, Nat.mul_comm, Nat.mul_assoc (B ^ j), Nat.mul_comm (B ^ j), ← Nat.mul_assoc, ← Nat.mul_assoc]
    have e2 : B ^ (j + 1) * b = b * B * B ^ j := by rw [Nat.pow_succ, Nat.mul_comm, Nat.mul_comm (B ^ j), ← Nat.mul_assoc]
    have e3 : B ^ j * c = c * B ^ j := Nat.mul_comm _ _
    rw [e1, e2, e3, Nat.add_mul, Nat.add_mul, Nat.add_mul]
    omega
  · have := val_lt hB (l.take j) (fun x hx => h x (List.mem_of_mem_take hx))
    rwa [List.length_take, Nat.min_eq_left (by omega)] at this

theorem guess_fin {B : Nat} (hB : 2 ≤ B) {p Z : List Nat} {j : Nat} (hp : p.length = j + 3) (hZ : Z.length = j + 2) (hpB : ∀ x ∈ p, x < B) (hZB : ∀ x ∈ Z, x < B) (htop : 1 ≤ Z.getD (j + 1) 0) (h : val B (p.drop 1) < val B Z) :
    p.getD (j + 2) 0 * B + p.getD (j + 1) 0 ≤ Z.getD (j + 1) 0 * B + Z.getD j 0 ∧
    val B p / val B Z ≤ min (((p.getD (j + 2) 0 * B + p.getD (j + 1) 0) * B + p.getD j 0) / (Z.getD (j + 1) 0 * B + Z.getD j 0)) (B - 1) ∧
    min (((p.getD (j + 2) 0 * B + p.getD (j + 1) 0) * B + p.getD j 0) / (Z.getD (j + 1) 0 * B + Z.getD j 0)) (B - 1) ≤ val B p / val B Z + 1 := by
  have hz := two_top (by omega) hZ hZB
  have hp3 := three_top (by omega) hp hpB
  have hp2 := two_top (j := j) (l := p.drop 1) (by omega) (by rw [List.length_drop]; omega) (fun x hx => hpB x (List.mem_of_mem_drop hx))
  rw [getD_drop, getD_drop, show 1 + (j + 1) = j + 2 by omega, show 1 + j = j + 1 by omega] at hp2
  have hhead := val_head B p
  rw [← List.drop_one] at hhead
  have hh0 : p.getD 0 0 < B := getD_lt (by omega) hpB 0
  have hT : B ≤ Z.getD (j + 1) 0 * B + Z.getD j 0 := by
    have : 1 * B ≤ Z.getD (j + 1) 0 * B := Nat.mul_le_mul_right _ htop
    omega
  refine ⟨?_, guess_ok (by omega) hz.1 hp3.1 hz.2 hp3.2 hT ?_⟩
  · rcases Nat.lt_or_ge (Z.getD (j + 1) 0 * B + Z.getD j 0) (p.getD (j + 2) 0 * B + p.getD (j + 1) 0) with hgt | hle
    · have h1 : (Z.getD (j + 1) 0 * B + Z.getD j 0 + 1) * B ^ j ≤ (p.getD (j + 2) 0 * B + p.getD (j + 1) 0) * B ^ j := Nat.mul_le_mul_right _ hgt
      rw [Nat.add_mul, Nat.one_mul] at h1
      omega
    · exact hle
  · rw [hhead, Nat.mul_comm (val B Z)]
    have : B * (val B (p.drop 1) + 1) ≤ B * val B Z := Nat.mul_le_mul_left _ h
    rw [Nat.mul_add] at this
    omega

theorem bitlen_low {t : Nat} (h : t ≠ 0) : 1 ≤ bitlen t ∧ 2 ^ (bitlen t - 1) ≤ t := by
  unfold bitlen
  rw [if_neg h]
  exact ⟨by omega, by simpa using Nat.log2_self_le h⟩

/-- The divisor made great. -/
theorem norm_top {V0 n up : Nat} (hn : n + 1 = (dig B32 V0).length) (hup : up = 32 - bitlen ((dig B32 V0).getD n 0)) :
    up ≤ 31 ∧ (dig B32 (V0 * 2 ^ up)).length = n + 1 ∧ 2147483648 ≤ (dig B32 (V0 * 2 ^ up)).getD n 0 ∧ B32 ^ n ≤ V0 := by
  have hC := canon_dig B32_two V0
  have hv := val_dig B32_two V0
  have h0 : V0 ≠ 0 := by intro h; subst h; rw [dig_zero] at hn; simp at hn
  have hpl := pow_le_of_dig B32_two h0
  rw [← hn, Nat.add_sub_cancel] at hpl
  generalize dig B32 V0 = Y at *
  have hne : Y ≠ [] := by intro h; subst h; simp at hn
  have htop : Y.getD n 0 = Y.getLast hne := by
    rw [List.getLast_eq_getElem, List.getD_eq_getElem?_getD, List.getElem?_eq_getElem (by omega)]
    simp [← hn]
  have ht0 := hC.2 hne
  rw [← htop] at ht0
  have htB : Y.getD n 0 < B32 := getD_lt (by decide) hC.1 n
  have hsn := val_take_snoc B32 Y n
  rw [List.take_of_length_le (by omega), hv] at hsn
  have hlow := val_lt (B := B32) (by decide) (Y.take n) (fun x hx => hC.1 x (List.mem_of_mem_take hx))
  rw [List.length_take, Nat.min_eq_left (by omega)] at hlow
  generalize val B32 (Y.take n) = lo at *
  generalize Y.getD n 0 = t at *
  have hb1 := bitlen_low ht0
  have hb2 := lt_bitlen t
  have hb3 : bitlen t ≤ 32 := bitlen_le (by unfold B32 at htB; omega)
  generalize bitlen t = b at *
  have e31 : 2 ^ (b - 1) * 2 ^ up = 2147483648 := by rw [← Nat.pow_add, show b - 1 + up = 31 by omega]
  have e32 : 2 ^ b * 2 ^ up = B32 := by rw [← Nat.pow_add, show b + up = 32 by omega]; rfl
  have hge : B32 ^ n * 2147483648 ≤ V0 * 2 ^ up := by
    have h1 : 2 ^ (b - 1) * 2 ^ up ≤ t * 2 ^ up := Nat.mul_le_mul_right _ hb1.2
    rw [e31] at h1
    have h2 : B32 ^ n * 2147483648 ≤ B32 ^ n * (t * 2 ^ up) := Nat.mul_le_mul_left _ h1
    have h3 : B32 ^ n * (t * 2 ^ up) ≤ V0 * 2 ^ up := by
      rw [← Nat.mul_assoc]
      exact Nat.mul_le_mul_right _ (by omega)
    omega
  have hlt : V0 * 2 ^ up < B32 ^ (n + 1) := by
    have h1 : V0 < B32 ^ n * (t + 1) := by rw [Nat.mul_add]; omega
    have h2 : B32 ^ n * (t + 1) ≤ B32 ^ n * 2 ^ b := Nat.mul_le_mul_left _ hb2
    have h3 : V0 * 2 ^ up < B32 ^ n * 2 ^ b * 2 ^ up := Nat.mul_lt_mul_of_pos_right (by omega) (Nat.two_pow_pos _)
    rw [Nat.mul_assoc, e32, ← Nat.pow_succ] at h3
    exact h3
  have hlen : (dig B32 (V0 * 2 ^ up)).length = n + 1 := by
    have h1 := dig_len_le B32_two hlt
    rcases Nat.lt_or_ge (dig B32 (V0 * 2 ^ up)).length (n + 1) with h2 | h2
    · have h3 := le_of_dig_len B32_two (show (dig B32 (V0 * 2 ^ up)).length ≤ n by omega)
      have : B32 ^ n * 1 ≤ B32 ^ n * 2147483648 := Nat.mul_le_mul_left _ (by decide)
      omega
    · omega
  refine ⟨by omega, hlen, ?_, hpl⟩
  have hZ : Ws (dig B32 (V0 * 2 ^ up)) := Ws.dig _
  have hvz := val_dig B32_two (V0 * 2 ^ up)
  have hd := (val_drop_div B32 (by decide) _ hZ n (by omega)).1
  rw [hvz] at hd
  generalize dig B32 (V0 * 2 ^ up) = Z at *
  have h1 : val B32 (Z.drop n) = Z.getD n 0 := by
    rw [List.drop_eq_getElem_cons (by omega), List.drop_of_length_le (by omega), List.getD_eq_getElem?_getD, List.getElem?_eq_getElem (by omega)]
    simp [val]
  rw [h1] at hd
  rw [← hd]
  exact (Nat.le_div_iff_mul_le (Nat.pow_pos (by decide))).2 (by rw [Nat.mul_comm]; exact hge)

/-- A part of a slice. -/
theorem Sl.part {w : World} {g o n cap : Nat} {l : List Nat} (h : Sl w (some ⟨g, o, none⟩) n cap (ints .u32 l)) (i k : Nat) (hik : i + k ≤ n) : Sl w (some ⟨g, o + i, none⟩) k (cap - i) (ints .u32 ((l.drop i).take k)) := by
  have hl := h.int_len
  refine ⟨by rw [ints_len, List.length_take, List.length_drop]; omega, by have := h.2.1; omega, by have := h.2.2.1; omega, fun h0 => ⟨g, o + i, rfl, fun j u hu => ?_⟩⟩
  obtain ⟨b, off, ha, hc⟩ := h.2.2.2 (by omega)
  simp only [Option.some.injEq, Addr.mk.injEq, and_true] at ha
  obtain ⟨rfl, rfl⟩ := ha
  have : (ints .u32 l)[i + j]? = some u := by
    simp only [ints, List.getElem?_map, List.getElem?_take, List.getElem?_drop] at hu ⊢
    split at hu
    · exact hu
    · simp at hu
  have h2 := hc (i + j) u this
  rwa [← Nat.add_assoc] at h2

end Go.Proofs.Ytlhaepcnhkaclaa

namespace Go.Proofs.Ytlhaepcnhkaclaa
set_option linter.unusedVariables false
open Go Go.RowKit

theorem ownsRow_extN {w u : World} {B e n : Nat} {v : Value} {xs : List Value} (h : w.ownsRow B e 1 v n xs) (he : Ext w u) : u.ownsRow B e 1 v n xs := by
  obtain ⟨h1, h2⟩ := h
  refine ⟨h1, ?_⟩
  rcases h2 with h2 | ⟨g, cap, cur, rfl, hg, hh, hn, hm, hs, hx⟩
  · exact .inl h2
  · have hlt : g < w.heap.size := by
      rcases Nat.lt_or_ge g w.heap.size with h | h
      · exact h
      · rw [Array.getElem?_eq_none h] at hh; cases hh
    exact .inr ⟨g, cap, cur, rfl, hg, by rw [he.block g hlt]; exact hh, hn, hm, hs, hx⟩

end Go.Proofs.Ytlhaepcnhkaclaa

namespace Go.Proofs.Ytlhaepcnhkaclaa
set_option linter.unusedVariables false
open Go Go.RowKit

end Go.Proofs.Ytlhaepcnhkaclaa
