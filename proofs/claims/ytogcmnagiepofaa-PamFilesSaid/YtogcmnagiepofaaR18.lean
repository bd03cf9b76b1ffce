/- The head of a file, in the document's way. -/
import Derived.Test.YtogcmnagiepofaaR10
import Derived.Laws.RangeAny
import Derived.Lib.Strings
namespace Go.Proofs.Ytogcmnagiepofaa
set_option linter.unusedVariables false
open Go Go.RowKit

set_option maxRecDepth 100000 in
set_option maxHeartbeats 1000000 in
theorem r07_Num_any (n : Int) (w : World) (h1 : -9223372036854775808 ≤ n) (h2 : n ≤ 9223372036854775807) :
    Calls Try.prog 136 #[.int .i64 n] w fun e w' => e = .returned (.string (textZ n)) ∧ Ext w w' := by
  have hl : (dig B32 n.natAbs).length ≤ 549755813888 := by
    have : (dig B32 n.natAbs).length ≤ 2 := natAbs_len (by unfold B32; omega)
    omega
  have HL := hidP hl; clear hl
  have hd : (decD n.natAbs).length ≤ 35184372088832 := by have := decD_len (m := n.natAbs) (by omega); omega
  have HD := hidP hd; clear hd
  go_enter Try.func136, Try.ntmps136
  go_wp2_with fail
  refine (r02_Of_any n _ h1 h2).mono ?_
  rintro e w1 hh
  obtain ⟨a1, n1, cap1, rfl, hw1, hs1, he1⟩ := hh.whIn HL.out
  clear hh hs1
  generalize decide (n < 0) = nb at *
  go_wp2_with fail
  refine (r02_Text_any nb a1 n1 cap1 n _ hw1 HD.out).mono ?_
  rintro e w2 ⟨rfl, he2⟩
  go_wp2_with fail
  go_ret
  exact ⟨rfl, he1.trans he2⟩


set_option maxRecDepth 100000 in
set_option maxHeartbeats 4000000 in
theorem d_Head (x y : Int) (w : World) (h1 : -9223372036854775808 ≤ x) (h2 : x ≤ 9223372036854775807) (h3 : -9223372036854775808 ≤ y) (h4 : y ≤ 9223372036854775807) :
    Calls Try.prog 111 #[.int .i64 x, .int .i64 y] w fun e w' => e = .returned (.string (headS x y)) ∧ Ext w w' := by
  have hsx := textZ_small h1 h2
  have hsy := textZ_small h3 h4
  have HX := hidP (fun u => r07_Num_any x u h1 h2)
  have HY := hidP (fun u => r07_Num_any y u h3 h4)
  have HS : Hid (headS x y = (((⟨#[80, 55, 10, 87, 73, 68, 84, 72, 32]⟩ ++ textZ x) ++ ⟨#[10, 72, 69, 73, 71, 72, 84, 32]⟩) ++ textZ y) ++ ⟨#[10, 68, 69, 80, 84, 72, 32, 52, 10, 77, 65, 88, 86, 65, 76, 32, 50, 53, 53, 10, 84, 85, 80, 76, 84, 89, 80, 69, 32, 82, 71, 66, 95, 65, 76, 80, 72, 65, 10, 69, 78, 68, 72, 68, 82, 10]⟩) := hidP rfl
  clear h1 h2 h3 h4
  generalize headS x y = hs at *
  generalize textZ x = tx at *
  generalize textZ y = ty at *
  go_enter Try.func111, Try.ntmps111
  go_wp2_with fail
  refine (HX.out _).mono ?_
  rintro e u1 ⟨rfl, HE⟩
  go_wp2_with fail
  refine (HY.out _).mono ?_
  rintro e u2 ⟨rfl, hx⟩
  replace HE := HE.trans hx
  go_wp2_with fail
  go_ret
  rw [HS.out]
  exact ⟨rfl, HE⟩

end Go.Proofs.Ytogcmnagiepofaa
