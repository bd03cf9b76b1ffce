/- The law of texts of numbers: its walk. -/
import Derived.Test.YtcipcpbjkcpgdaaF3
namespace Go.Proofs.Ytcipcpbjkcpgdaa
set_option linter.unusedVariables false
open Go Go.RowKit

def pcode (l : List Nat) : Nat := if 2000 < l.length then 4 else if PlainL l then 0 else 3
def pwords (l : List Nat) : List Nat := if 2000 < l.length then [] else if PlainL l then dig B32 (dval l) else []
theorem ParseR.flat {w w' : World} {l : List Nat} {e : Ending} (h : ParseR w l e w') :
    ∃ a n cap, e = .returned (.tuple #[.slice a n cap, .int .i64 ((pcode l : Nat) : Int)]) ∧ Sl w' a n cap (ints .u32 (pwords l)) ∧ Ext w w' := by
  rcases h with ⟨hb, rfl, he⟩ | ⟨hb, hp, rfl, he⟩ | ⟨hb, hp, a, n, cap, rfl, hs, he⟩
  · have h1 : pcode l = 4 := if_pos hb
    have h2 : pwords l = [] := if_pos hb
    rw [h1, h2]
    exact ⟨none, 0, 0, rfl, Sl.nil _, he⟩
  · have h1 : pcode l = 3 := by unfold pcode; rw [if_neg (by omega), if_neg hp]
    have h2 : pwords l = [] := by unfold pwords; rw [if_neg (by omega), if_neg hp]
    rw [h1, h2]
    exact ⟨none, 0, 0, rfl, Sl.nil _, he⟩
  · have h1 : pcode l = 0 := by unfold pcode; rw [if_neg (by omega), if_pos hp]
    have h2 : pwords l = dig B32 (dval l) := by unfold pwords; rw [if_neg (by omega), if_pos hp]
    rw [h1, h2]
    exact ⟨a, n, cap, rfl, hs, he⟩
theorem pwords_len (l : List Nat) : (pwords l).length ≤ 2000 := by
  unfold pwords
  split
  · simp
  · split
    · next h1 h2 =>
      have h3 := dig_len_le B32_two (dval_lt l (fun c hc => (h2.2.2 c hc).2))
      omega
    · simp

set_option maxRecDepth 100000 in
set_option maxHeartbeats 2000000 in
theorem natTexts_any (a : Option Addr) (n cap : Nat) (x : List Nat) (s : ByteArray) (w : World) (hs : Sl w a n cap (ints .u32 x)) (hx : Ws x) (hn : n ≤ 1048576) (hsz : s.size ≤ 1048576) :
    Calls Try.prog 3 #[.slice a n cap, .string s] w fun e w' => e = .returned (.bool true) ∧ Ext w w' := by
  have hD : (decD (val B32 x)).length ≤ 35184372088832 := by have := decD_len' hx (n := n) (by have := hs.int_len; omega); omega
  have HS := hidP hs; have HD := hidP hD
  have hpl := pwords_len (natsOf s)
  clear hs hD
  have hp1 := fun u => nat_Parse_any s u
  have hp2 := fun u => r01_Parse_any s u
  have ht1 := fun u h => nat_Text_any a n cap x u h hx (by omega)
  have ht2 := fun u h => r01_Text_any a n cap x u h hx (by omega) HD.out
  generalize natsOf s = ls at *
  generalize decS (val B32 x) = tx at *
  have HP1 := hidP hp1; have HP2 := hidP hp2; have HT1 := hidP ht1; have HT2 := hidP ht2
  clear hp1 hp2 ht1 ht2
  go_enter Try.func3, Try.ntmps3
  go_wp2_with fail
  refine (HP1.out _).mono ?_
  rintro e w1 h1
  obtain ⟨a1, n1, c1, rfl, hs1, he1⟩ := h1.flat
  clear h1
  go_wp2_with fail
  refine (HP2.out _).mono ?_
  rintro e w2 h2
  obtain ⟨a2, n2, c2, rfl, hs2, he2⟩ := h2.flat
  replace hs1 := hs1.ext he2
  have HE := he1.trans he2
  clear h2 he1 he2
  go_wp2_with fail
  refine (HT1.out _ (HS.out.ext HE)).mono ?_
  rintro e w3 ⟨rfl, he⟩
  replace hs1 := hs1.ext he
  replace hs2 := hs2.ext he
  replace HE := HE.trans he
  clear he
  go_wp2_with fail
  refine (HT2.out _ (HS.out.ext HE)).mono ?_
  rintro e w4 ⟨rfl, he⟩
  replace hs1 := hs1.ext he
  replace hs2 := hs2.ext he
  replace HE := HE.trans he
  clear he
  have hn1 : n1 ≤ 2000 := by have := hs1.int_len; omega
  generalize pcode ls = pc at *
  generalize pwords ls = pw at *
  go_wp2_with fail
  refine (r01_Same_any a1 a2 n1 c1 n2 c2 pw pw _ hs1 hs2 (by omega)).mono ?_
  rw [decide_eq_true rfl]
  rintro e w5 ⟨rfl, he⟩
  replace HE := HE.trans he
  clear he hs1 hs2
  go_wp2_with fail
  refine (n_lives_any _).mono ?_
  rintro e w6 ⟨rfl, he⟩
  go_wp2_with fail
  go_ret
  exact ⟨rfl, HE.trans he⟩

end Go.Proofs.Ytcipcpbjkcpgdaa
