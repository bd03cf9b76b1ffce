/- The program's numbers (nat): shifts. -/
import Derived.Test.YtcipcpbjkcpgdaaB4
import Derived.Test.YtcipcpbjkcpgdaaK1
namespace Go.Proofs.Ytcipcpbjkcpgdaa
set_option linter.unusedVariables false
open Go Go.RowKit

/-- 'make([]T, l, c)'. -/
theorem wpList_make2 {P : Program} {ops : Array Oper} {rest : List Oper} {o : Oper} {a : Act} {Q : Exit → Act → World → Prop} {W w : World} {t e : TypeId} {z : Value} {bytes : Nat} (hT : SlT P t e z bytes)
    (hgd : o.guard = none) (x y : Operand) (ho : o.op = .makeSlice t x y) {kl kc : IntKind} {l n : Nat} (hx : a.eval x = .int kl (l : Int)) (hy : a.eval y = .int kc (n : Int)) (he : Ext W w) (hln : l ≤ n) (hn : n ≤ 17592186044416) (hb' : bytes ≤ 8) (hzc : z.cells = #[z])
    (h : ∀ w', w'.ownsRow W.heap.size e 1 (.slice (some ⟨w.heap.size, 0, none⟩) l n) l (List.replicate l z) → Ext W w' → w'.heap.size = w.heap.size + 1 → wpList P ops Q rest (a.put o.dst (.slice (some ⟨w.heap.size, 0, none⟩) l n)) w') :
    wpList P ops Q (o :: rest) a w := by
  obtain ⟨ht, i, hi, hz, hsz, hby, hzs⟩ := hT
  refine wpList_plain hgd fun K hK => ?_
  have hr := run_make (P := P) w t e i z ht hi hz kl kc l n (by omega) (by omega) (by
    have h1 : bytes * n ≤ 281474976710656 := Nat.le_trans (Nat.mul_le_mul hb' hn) (by decide)
    have h2 : ((i.bytes * n : Nat) : Int) ≤ 281474976710656 := by rw [hby]; omega
    rwa [Int.natCast_mul] at h2) (by omega)
  simp only [Int.toNat_natCast] at hr
  unfold Oper.wp execOp
  simp only [ho, hx, hy, Sem.run_bind, Sem.run_pure, hr, Result.andThen_ok]
  refine hK _ _ (h _ ?_ (he.alloc _) (by simp))
  rw [hsz]
  have hl : (madeCells z.cells (n * 1)).toList = List.replicate n z := by
    rw [Nat.mul_one, hzc, toList_madeCells_one]
  refine ⟨by simp, .inr ⟨w.heap.size, n, madeCells z.cells (n * 1), rfl, he.size, by show (w.heap.push _)[w.heap.size]? = _; simp, hln, by unfold maxLen; omega, by simp [madeCells], ?_⟩⟩
  rw [hl, Nat.mul_one, List.take_replicate, Nat.min_eq_left hln]

theorem orsh (p m c : Nat) (hp : p ≤ 4294967295) (hm : m ≤ 31) (hc : c < 2 ^ m) : bits .or .u64 (IntKind.u64.wrap ((p : Int) * 2 ^ m)) (c : Int) = ((p * 2 ^ m + c : Nat) : Int) := by
  have hM : 2 ^ m ≤ 2 ^ 31 := Nat.pow_le_pow_right (by decide) hm
  have hpm : p * 2 ^ m ≤ 4294967295 * 2 ^ 31 := Nat.mul_le_mul hp hM
  have e : (p : Int) * 2 ^ m = ((p * 2 ^ m : Nat) : Int) := by rw [Int.natCast_mul, Int.natCast_pow]; rfl
  rw [e, IntWalk.u64_in _ (by omega)]
  have h1 := u64_or_nat (p * 2 ^ m) c (by omega) (by omega)
  have h2 : p * 2 ^ m ||| c = p * 2 ^ m + c := by
    have := Nat.shiftLeft_add_eq_or_of_lt (i := m) (b := c) hc p
    rw [Nat.shiftLeft_eq] at this
    exact this.symm
  rw [h2] at h1
  exact h1
theorem shl_hi {p m c : Nat} (hp : p ≤ 4294967295) (hm : m ≤ 31) (hc : c < 2 ^ m) : (p * 2 ^ m + c) / 4294967296 < 2 ^ m ∧ p * 2 ^ m + c ≤ 18446744073709551615 := by
  have hM : 2 ^ m ≤ 2 ^ 31 := Nat.pow_le_pow_right (by decide) hm
  have h1 : p * 2 ^ m + c < 4294967296 * 2 ^ m := by
    have : (p + 1) * 2 ^ m ≤ 4294967296 * 2 ^ m := Nat.mul_le_mul_right _ (by omega)
    rw [Nat.add_mul] at this; omega
  refine ⟨(Nat.div_lt_iff_lt_mul (by decide)).2 (by omega), ?_⟩
  have : 4294967296 * 2 ^ m ≤ 4294967296 * 2 ^ 31 := Nat.mul_le_mul_left _ hM
  omega

set_option maxRecDepth 100000 in
set_option maxHeartbeats 1000000 in
theorem nat_left_any (a : Option Addr) (n cap : Nat) (x : List Nat) (ws more : Nat) (w : World) (hs : Sl w a n cap (ints .u32 x)) (hx : Ws x) (hn : n ≤ 2199023255552) (hw : ws ≤ 1048576) (hm : more ≤ 31) :
    Calls Try.prog 123 #[.slice a n cap, .int .i64 ws, .int .i64 more] w (RetSl w (ints .u32 (dig B32 (val B32 x * 2 ^ (32 * ws + more))))) := by
  have hlen := hs.int_len
  go_enter Try.func123, Try.ntmps123
  go_wp2_with (at_make; refine wpList_make2 (W := w) (l := ws) (n := ws + n + 1) T_u32' rfl _ _ rfl rfl rfl (Ext.refl _) (by omega) (by omega) (by omega) rfl ?_; intro w1 hown he1 hsz)
  rw [replicate_ints] at hown
  clear hsz
  have hd0 : Ws (List.replicate ws 0) := by intro d hd; simp at hd; rw [hd.2]; decide
  have HD0 : Hid (val B32 (List.replicate ws 0) + B32 ^ (ws + 0) * 0 = B32 ^ ws * (val B32 (x.take 0) * 2 ^ more)) := hidP (by simp [val_replicate, val])
  have HL0 : Hid ((List.replicate ws 0).length = ws + 0) := hidP (by simp)
  generalize List.replicate ws 0 = d0 at *
  go_loopw [7, 8, 21] (fun v c i wr => ∃ (k cc : Nat) (D : List Nat), k ≤ n ∧ i = .int .i64 k ∧ c = .int .u64 (cc : Nat) ∧ wr.ownsRow w.heap.size 57 1 v (ws + k) (ints .u32 D) ∧ Ext w wr ∧ cc < 2 ^ more ∧ D.length = ws + k ∧ Ws D ∧ val B32 D + B32 ^ (ws + k) * cc = B32 ^ ws * (val B32 (x.take k) * 2 ^ more)) (fun _ _ i _ => n - (intOf i).toNat)
  case atStart => exact ⟨0, 0, d0, by omega, rfl, rfl, hown, he1, Nat.two_pow_pos _, HL0.out, hd0, HD0.out⟩
  case round =>
    clear hown he1 hd0 HD0 HL0
    obtain ⟨k, cc, D, hk, rfl, rfl, hown, he, hcc, hDl, hD, hv⟩ := hrel
    have HV := hidP hv; clear hv
    have HDL := hidP hDl; clear hDl
    by_cases h0 : k < n
    · obtain ⟨b, off, rfl, hc⟩ := (hs.ext he).at_int (by omega)
      have hck := hc k (by omega)
      have hp1 := hx.at k (by omega)
      clear hc
      obtain ⟨p, hP⟩ : ∃ p, p = x[k]'(by omega) := ⟨_, rfl⟩
      rw [← hP] at hck hp1
      have HP : Hid (x.getD k 0 = p) := hidP (by rw [hP, List.getD_eq_getElem?_getD]; simp [show k < x.length by omega])
      clear hP
      have hor := orsh p more cc (by omega) hm hcc
      have hhi := (shl_hi (by omega) hm hcc : (p * 2 ^ more + cc) / 4294967296 < 2 ^ more ∧ _)
      have hlo := lo32 (p * 2 ^ more + cc) hhi.2
      generalize hV : p * 2 ^ more + cc = V at hor hhi hlo
      have hVhi := hhi.1
      have hVb := hhi.2
      have HVE := hidP hV
      clear hhi hV
      have hrb : V % 4294967296 < 4294967296 := Nat.mod_lt _ (by decide)
      go_wp2_with (at_builtin; refine wpList_app1 T_u32' rfl _ _ rfl hown he _ rfl rfl rfl (by omega) (by omega) ?_; intro v' w' hown' he')
      go_roundw
      case rel =>
        refine ⟨k + 1, V / 4294967296, D ++ [V % 4294967296], by omega, by go_num, rfl, ?_, he', hVhi, by have := HDL.out; simp; omega, ?_, ?_⟩
        · rw [ints_append]; exact hown'
        · intro d hd
          rcases List.mem_append.1 hd with hd | hd
          · exact hD d hd
          · simp at hd; subst hd; exact hrb
        · have h9 := HV.out
          rw [val_take_snoc, val_snoc, HP.out, HDL.out, show ws + (k + 1) = (ws + k) + 1 by omega, Nat.pow_succ]
          have h3 := shl_step (B := B32) (P := B32 ^ (ws + k)) (M := 2 ^ more) (x := p) (c := cc) (v := V) (X := B32 ^ ws * val B32 (x.take k)) (E := val B32 D) HVE.out.symm (by rw [h9, Nat.mul_assoc])
          have e : (B32 ^ ws * val B32 (x.take k) + B32 ^ (ws + k) * p) * 2 ^ more = B32 ^ ws * ((val B32 (x.take k) + B32 ^ k * p) * 2 ^ more) := by
            rw [Nat.pow_add, Nat.mul_assoc (B32 ^ ws) (B32 ^ k) p, ← Nat.mul_add, Nat.mul_assoc]
          rw [e] at h3
          exact h3
      case measure => simp only [intOf]; omega
    · obtain rfl : k = n := by omega
      have hv := HV.out
      rw [List.take_of_length_le (by omega)] at hv
      have HVE : Hid (val B32 (D ++ [cc]) = val B32 x * 2 ^ (32 * ws + more)) := hidP (by
        rw [val_snoc, HDL.out, hv, Nat.pow_add 2, Nat.pow_mul, show (2 : Nat) ^ 32 = B32 from rfl, Nat.mul_left_comm])
      have hM : 2 ^ more ≤ 2 ^ 31 := Nat.pow_le_pow_right (by decide) hm
      have hccb : cc ≤ 2147483648 := by omega
      clear hv HV hcc hM
      have hmod : cc % 4294967296 = cc := Nat.mod_eq_of_lt (by omega)
      have hD2 : Ws (D ++ [cc]) := by
        intro d hd
        rcases List.mem_append.1 hd with hd | hd
        · exact hD d hd
        · simp at hd; subst hd; unfold B32; omega
      go_wp2_with (at_builtin; refine wpList_app1 T_u32' rfl _ _ rfl hown he _ rfl rfl rfl (by omega) (by omega) ?_; intro v' w' hown' he')
      have hown2 : w'.ownsRow w.heap.size 57 1 v' (ws + k + 1) (ints .u32 (D ++ [cc])) := by rw [ints_append]; exact hown'
      clear hown'
      obtain ⟨a5, cap5, rfl, hsl⟩ := Sl.of_owns hown2
      have hm5 := hsl.2.2.1
      have hc5 := hsl.2.1
      unfold maxLen at hm5
      have HCUT := hidP (cut_sl32 hsl hD2)
      have hcl := dig_val_len B32_two (D ++ [cc]) hD2
      have hcl2 : (D ++ [cc]).length = ws + k + 1 := hsl.int_len
      rw [hcl2] at hcl
      generalize hk5 : (dig B32 (val B32 (D ++ [cc]))).length = k5 at *
      have HK5 := hidP hk5; clear hk5 hcl2
      go_wp2_with fail
      refine (nat_size_any _ _ _ (D ++ [cc]) _ hsl hD2 (by omega)).mono ?_
      rw [HK5.out]
      rintro e w'' ⟨rfl, rfl⟩
      go_wp2
      go_ret
      exact ⟨_, _, _, rfl, by rw [← HVE.out]; exact HCUT.out, he'⟩

end Go.Proofs.Ytcipcpbjkcpgdaa
