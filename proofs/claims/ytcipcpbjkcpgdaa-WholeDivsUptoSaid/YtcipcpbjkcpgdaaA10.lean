/- The document's numbers (frisketref01): shifts and texts. -/
import Derived.Test.YtcipcpbjkcpgdaaA9
import Derived.Laws.IdiomStrings
namespace Go.Proofs.Ytcipcpbjkcpgdaa
theorem pow_words' {m N : Nat} (h : m < 32 * N) : (dig B32 (2 ^ m)).length ≤ N := dig_len_le B32_two (by
  have : B32 ^ N = 2 ^ (32 * N) := by rw [Nat.pow_mul]; rfl
  rw [this]
  exact Nat.pow_lt_pow_right (by decide) h)
theorem pow_words {m : Nat} (h : m ≤ 4096) : (dig B32 (2 ^ m)).length ≤ 129 := pow_words' (N := 129) (by omega)

set_option linter.unusedVariables false
open Go Go.RowKit

/-- A number times a power of 2; none beyond the bounds. -/
def shl32 (V : Nat) (k : Int) : List Nat := if k > 4096 ∨ k < -4096 then [] else if 0 ≤ k then dig B32 (V * 2 ^ k.toNat) else dig B32 (V / 2 ^ (-k).toNat)

set_option maxHeartbeats 1000000 in
theorem r01_Shift_any (a : Option Addr) (n cap : Nat) (x : List Nat) (k : Int) (w : World) (hs : Sl w a n cap (ints .u32 x)) (hx : Ws x) (hn : n ≤ 1099511627776) :
    Calls Try.prog 35 #[.slice a n cap, .int .i64 k] w
      (RetSl w (ints .u32 (shl32 (val B32 x) k))) := by
  by_cases h1 : k > 4096
  · have HD : Hid (k > 4096 ∨ k < -4096) := hidP (.inl h1)
    go_enter Try.func35, Try.ntmps35
    go_wp2
    go_ret
    exact ⟨none, 0, 0, rfl, by unfold shl32; rw [if_pos HD.out]; exact Sl.nil _, Ext.refl _⟩
  by_cases h2 : k < -4096
  · have HD : Hid (k > 4096 ∨ k < -4096) := hidP (.inr h2)
    go_enter Try.func35, Try.ntmps35
    go_wp2
    go_ret
    exact ⟨none, 0, 0, rfl, by unfold shl32; rw [if_pos HD.out]; exact Sl.nil _, Ext.refl _⟩
  have HD : Hid (¬ (k > 4096 ∨ k < -4096)) := hidP (by omega)
  by_cases h3 : 0 ≤ k
  · obtain ⟨m, rfl⟩ : ∃ m : Nat, k = m := ⟨k.toNat, by omega⟩
    have hm : m ≤ 4096 := by omega
    clear h1 h2 h3
    go_enter Try.func35, Try.ntmps35
    go_wp2_with fail
    refine (r01_Power_any m _ (by omega)).mono ?_
    rintro e w1 ⟨a1, n1, cap1, rfl, hs1, he1⟩
    have hl1 := hs1.int_len
    have hb : (dig B32 (2 ^ m)).length ≤ 129 := pow_words (by omega)
    rw [hl1] at hb
    clear hl1
    go_wp2_with fail
    refine (r01_Mul_any a a1 n cap n1 cap1 x _ _ (hs.ext he1) hs1 hx (Ws.dig _) hn (by omega)).mono ?_
    rw [val_dig B32_two]
    rintro e w2 ⟨a2, n2, cap2, rfl, hs2, he2⟩
    go_wp2
    go_ret
    refine ⟨_, _, _, rfl, ?_, he1.trans he2⟩
    unfold shl32
    rw [if_neg HD.out, if_pos (by omega), Int.toNat_natCast]
    exact hs2
  · obtain ⟨m, rfl⟩ : ∃ m : Nat, k = -(m : Int) := ⟨(-k).toNat, by omega⟩
    have hm : m ≤ 4096 := by omega
    have hm1 : 1 ≤ m := by omega
    clear h1 h2 h3
    go_enter Try.func35, Try.ntmps35
    go_wp2_with fail
    refine (r01_Power_any m _ (by omega)).mono ?_
    rintro e w1 ⟨a1, n1, cap1, rfl, hs1, he1⟩
    have hl1 := hs1.int_len
    have hb : (dig B32 (2 ^ m)).length ≤ 129 := pow_words (by omega)
    rw [hl1] at hb
    clear hl1
    go_wp2_with fail
    refine (r01_Div_any a a1 n cap n1 cap1 x _ _ (hs.ext he1) hs1 hx (Ws.dig _) hn (by omega)).mono ?_
    rw [val_dig B32_two]
    have hp : Hid (2 ^ m ≠ 0) := hidP (Nat.ne_of_gt (Nat.two_pow_pos m))
    rintro e w2 ⟨a2, n2, cap2, a3, n3, cap3, rfl, hs2, hs3, he2⟩
    rw [if_neg hp.out] at hs2
    go_wp2
    go_ret
    refine ⟨_, _, _, rfl, ?_, he1.trans he2⟩
    unfold shl32
    rw [if_neg HD.out, if_neg (by omega), show (- -(m : Int)).toNat = m by omega]
    exact hs2

/-- The decimal digits of a number, the highest first. -/
def decD (n : Nat) : List Nat := if n = 0 then [0] else (dig 10 n).reverse
theorem decD_small {n : Nat} (h : n < 10) : decD n = [n] := by
  unfold decD
  split
  · rename_i h0; rw [h0]
  · rename_i h0
    rw [dig_pos (by decide) h0, Nat.div_eq_of_lt h, dig_zero, Nat.mod_eq_of_lt h]; rfl
theorem decD_step {n : Nat} (h : 10 ≤ n) : decD n = decD (n / 10) ++ [n % 10] := by
  unfold decD
  rw [if_neg (by omega), if_neg (by omega), dig_pos (by decide) (by omega : n ≠ 0)]
  simp
def decB (l : List Nat) : ByteArray := ⟨(l.map fun d => UInt8.ofNat (48 + d)).toArray⟩
/-- A number's text. -/
def decS (n : Nat) : ByteArray := decB (decD n)
theorem decB_append (l m : List Nat) : decB (l ++ m) = decB l ++ decB m := by
  apply ByteArray.ext
  simp [decB]
theorem decB_size (l : List Nat) : (decB l).size = l.length := by simp [decB, ByteArray.size]

theorem str1 (w : World) (d : Nat) (hd : d < 10) :
    (convert 105 9 (.slice (some ⟨w.heap.size, 0, none⟩) 1 1)).run Try.prog (w.alloc (.cells #[.int .u8 (48 + (d : Int))] 5)) = .ok (.string (decB [d])) (w.alloc (.cells #[.int .u8 (48 + (d : Int))] 5)) := by
  have := run_convert_bytes_back (P := Try.prog) (w.alloc (.cells #[.int .u8 (48 + (d : Int))] 5)) 105 9 5 ⟨w.heap.size, 0, none⟩ 1 [UInt8.ofNat (48 + d)] Try.underlying105 Try.underlying5 Try.underlying9 (fun j hj => by
    obtain rfl : j = 0 := by simpa using hj
    have : ((UInt8.ofNat (48 + d)).toNat : Int) = 48 + (d : Int) := by simp; omega
    simp only [List.getElem_cons_zero, this]
    go_simp)
  simpa [decB] using this

def strLen : Value → Nat
  | .string b => b.size
  | _ => 0

set_option maxRecDepth 100000 in
set_option maxHeartbeats 2000000 in
theorem r01_Text_any (a : Option Addr) (n cap : Nat) (x : List Nat) (w : World) (hs : Sl w a n cap (ints .u32 x)) (hx : Ws x) (hn : n ≤ 1099511627776) (hD : (decD (val B32 x)).length ≤ 35184372088832) :
    Calls Try.prog 24 #[.slice a n cap] w fun e w' => e = .returned (.string (decS (val B32 x))) ∧ Ext w w' := by
  unfold decS
  generalize hDD : decD (val B32 x) = D at *
  have HD := hidP hDD; clear hDD
  go_enter Try.func24, Try.ntmps24
  go_wp2_with fail
  go_loopw [0, 3] (fun av sv wr => ∃ (a : Option Addr) (n cap : Nat) (l : List Nat) (s : List Nat), av = .slice a n cap ∧ sv = .string (decB s) ∧ Sl wr a n cap (ints .u32 l) ∧ Ws l ∧ Ext w wr ∧ n ≤ 1099511627776 ∧
    decD (val B32 l) ++ s = D) (fun _ sv _ => D.length - strLen sv)
  case atStart => exact ⟨a, n, cap, x, [], rfl, rfl, hs, hx, Ext.refl _, hn, by rw [HD.out]; simp⟩
  case round =>
    obtain ⟨a, n, cap, l, s, rfl, rfl, hs, hl, he, hn, hv⟩ := hrel
    have HV := hidP hv; clear hv
    go_wp2_with fail
    have hlit := Sl.lit wr 57 #[.int .u32 10] 1 rfl (by omega)
    refine (r01_Div_any a _ n cap 1 1 l [10] _ (hs.ext ((Ext.refl _).alloc _)) hlit hl ?_ hn (by omega)).mono ?_
    · intro d hd; simp at hd; subst hd; decide
    rw [show val B32 [10] = 10 by simp [val]]
    rintro e w2 ⟨a2, n2, cap2, a3, n3, cap3, rfl, hs2, hs3, he2⟩
    rw [if_neg (by decide)] at hs2 hs3
    have he3 : Ext w w2 := he.trans (((Ext.refl _).alloc _).trans he2)
    have hN2 : n2 ≤ 1099511627776 := by
      have h1 := hs2.int_len
      have h2 := dig_mono B32_two (Nat.div_le_self (val B32 l) 10)
      have h3 := dig_val_len B32_two l hl
      have h4 := hs.int_len
      omega
    have HN2 := hidP hN2
    clear hlit he2 hs hl hN2
    generalize val B32 l = V at *
    have hs2' := hidP hs2
    have hs3' := hidP hs3
    have he3' := hidP he3
    have he' := hidP he
    clear hs2 hs3 he3 he
    have hd9 : V % 10 < 10 := Nat.mod_lt _ (by decide)
    have step : ∀ d : Nat, d = V % 10 → True := fun _ _ => trivial
    have hdig : (V % 10 = 0 ∧ n3 = 0) ∨ (V % 10 ≠ 0 ∧ n3 = 1 ∧ ∃ b off, a3 = some ⟨b, off, none⟩ ∧ w2.cell? ⟨b, off, none⟩ = some (.int .u32 ((V % 10 : Nat) : Int))) := by
      have hs3 := hs3'.out
      have hl3 := hs3.int_len
      by_cases h0 : V % 10 = 0
      · rw [h0, dig_zero] at hl3
        exact .inl ⟨h0, hl3.symm⟩
      · have hdg : dig B32 (V % 10) = [V % 10] := by
          rw [dig_pos B32_two h0, Nat.div_eq_of_lt (by unfold B32; omega), dig_zero, Nat.mod_eq_of_lt (by unfold B32; omega)]
        rw [hdg] at hl3 hs3
        have hn3 : n3 = 1 := hl3.symm
        subst hn3
        obtain ⟨b, off, hb, hc⟩ := hs3.at_int (by omega)
        exact .inr ⟨h0, rfl, b, off, hb, by simpa using hc 0 (by simp)⟩
    generalize hdd : V % 10 = d at *
    have HDD := hidP hdd
    clear hdd step hs3'
    have hlen2 := hs2'.out.int_len
    have hE0 : n2 = 0 → [d] ++ s = D := fun hz => by
      have hv0 : V / 10 = 0 := by
        have h1 := val_dig B32_two (V / 10)
        have h3 : dig B32 (V / 10) = [] := List.eq_nil_of_length_eq_zero (by rw [hlen2, hz])
        rw [h3] at h1
        simpa [val] using h1.symm
      have hV : V < 10 := by omega
      rw [← HV.out, decD_small hV]
      have := HDD.out
      rw [Nat.mod_eq_of_lt hV] at this
      rw [this]
    have hE1 : ¬ n2 = 0 → decD (V / 10) ++ ([d] ++ s) = D := fun hz => by
      have hv0 : V / 10 ≠ 0 := fun h => hz (by rw [← hlen2, h, dig_zero]; rfl)
      rw [← HV.out, decD_step (n := V) (by omega), HDD.out]
      simp
    have hE2 : s.length < D.length := by
      have h1 := congrArg List.length HV.out
      rw [List.length_append] at h1
      have h2 : 0 < (decD V).length := by
        by_cases h : V < 10
        · rw [decD_small h]; simp
        · rw [decD_step (by omega)]; simp
      omega
    have HE0 := hidP hE0; have HE1 := hidP hE1; have HE2 := hidP hE2
    clear hE0 hE1 hE2 hlen2
    rcases hdig with ⟨h0, rfl⟩ | ⟨h0, rfl, b, off, rfl, hc⟩
    · subst h0
      have hcv := str1 w2 0 (by omega)
      rw [show (48 + ((0 : Nat) : Int)) = 48 from rfl] at hcv
      have hbs : (decB [0]).size + (decB s).size ≤ 9223372036854775807 := by rw [decB_size, decB_size]; have := HE2.out; simp; omega
      have hEnd : ∀ w3 : World, Ext w2 w3 → n2 = 0 → decB [0] ++ decB s = decB D ∧ Ext w w3 := fun w3 h3 hz => ⟨by rw [← HE0.out hz, decB_append], he3'.out.trans h3⟩
      have HEnd := hidP hEnd; clear hEnd
      by_cases hz : n2 = 0
      · subst hz
        go_wp2_with fail
        go_ret
        exact ⟨by rw [← (HEnd.out w2 (Ext.refl _) (by trivial)).1]; rfl, (HEnd.out _ ((Ext.refl _).alloc _) (by trivial)).2⟩
      · have hz2 : ((n2 : Int) == 0) = false := by simp; omega
        have HZ := hidP hz; clear hz
        go_wp2_with fail
        go_roundw
        case rel => exact ⟨a2, n2, cap2, dig B32 (V / 10), [0] ++ s, rfl, by rw [decB_append], (hs2'.out).ext ((Ext.refl _).alloc _), Ws.dig _, he3'.out.trans ((Ext.refl _).alloc _), HN2.out, by rw [val_dig B32_two]; exact HE1.out HZ.out⟩
        case measure =>
          have h1 := HE2.out
          have h2 : (decB [0] ++ decB s).size = 1 + s.length := by rw [← decB_append, decB_size]; simp; omega
          simp only [strLen, h2, decB_size]
          omega
    · have hcv := str1 w2 d hd9
      have hbs : (decB [d]).size + (decB s).size ≤ 9223372036854775807 := by rw [decB_size, decB_size]; have := HE2.out; simp; omega
      have hEnd : ∀ w3 : World, Ext w2 w3 → n2 = 0 → decB [d] ++ decB s = decB D ∧ Ext w w3 := fun w3 h3 hz => ⟨by rw [← HE0.out hz, decB_append], he3'.out.trans h3⟩
      have HEnd := hidP hEnd; clear hEnd
      by_cases hz : n2 = 0
      · subst hz
        go_wp2_with fail
        go_ret
        exact ⟨by rw [← (HEnd.out w2 (Ext.refl _) (by trivial)).1]; rfl, (HEnd.out _ ((Ext.refl _).alloc _) (by trivial)).2⟩
      · have hz2 : ((n2 : Int) == 0) = false := by simp; omega
        have HZ := hidP hz; clear hz
        go_wp2_with fail
        go_roundw
        case rel => exact ⟨a2, n2, cap2, dig B32 (V / 10), [d] ++ s, rfl, by rw [decB_append], (hs2'.out).ext ((Ext.refl _).alloc _), Ws.dig _, he3'.out.trans ((Ext.refl _).alloc _), HN2.out, by rw [val_dig B32_two]; exact HE1.out HZ.out⟩
        case measure =>
          have h1 := HE2.out
          have h2 : (decB [d] ++ decB s).size = 1 + s.length := by rw [← decB_append, decB_size]; simp; omega
          simp only [strLen, h2, decB_size]
          omega

end Go.Proofs.Ytcipcpbjkcpgdaa
