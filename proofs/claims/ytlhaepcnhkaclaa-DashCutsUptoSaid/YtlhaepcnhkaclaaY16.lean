/- The law of cuts: its walk. -/
import Derived.Test.YtlhaepcnhkaclaaY13
import Derived.Test.YtlhaepcnhkaclaaY14
namespace Go.Proofs.Ytlhaepcnhkaclaa
set_option linter.unusedVariables false
set_option linter.unusedSimpArgs false
open Go Go.RowKit


set_option maxRecDepth 100000 in
set_option maxHeartbeats 4000000 in
theorem dashCuts_any (a : Option Addr) (n cap : Nat) (l : List Pt) (c : Bool) (pa : Option Addr) (pn pc : Nat) (pat : List Int) (ph : Int) (w : World) (h : SlP w a n cap l) (hw : ∀ p ∈ l, True) (hn : n ≤ 4194303) (hp : Sl w pa pn pc (izs pat)) (hpw : ∀ x ∈ pat, True) (p1 : -9223372036854775808 ≤ ph) (p2 : ph ≤ 9223372036854775807) :
    Calls Try.prog 3 #[.agg #[.slice a n cap, .bool c], .slice pa pn pc, .int .i64 ph] w fun e w' => e = .returned (.bool true) ∧ Ext w w' := by
  have H := hidP h; have HP := hidP hp
  have HC1 := hidP (fun u (q : SlP u a n cap l) (qp : Sl u pa pn pc (izs pat)) => dd_Cut a n cap l c pa pn pc pat ph u q qp hn)
  have HC2 := hidP (fun u (q : SlP u a n cap l) (qp : Sl u pa pn pc (izs pat)) => dr_Cut a n cap l c pa pn pc pat ph u q qp hn)
  have HLV := hidP (fun u => dash_lives u)
  clear h hp
  generalize cutA l c pat ph = r at *
  obtain ⟨ll, er⟩ := r
  go_enter Try.func3, Try.ntmps3
  go_wp2_with fail
  refine absC (fun x1 hx1 => ?_)
  have hx : Ext w x1 := by rw [hx1]; exact ((Ext.refl _).alloc _)
  have bp : Bl x1 (w.heap.size) #[.slice a n cap, .bool c] := by rw [hx1]; exact (Bl.new (by simp))
  have HE := hx
  clear hx
  clear hx1
  refine (HC1.out _ (H.out.ext HE) (HP.out.ext HE)).mono ?_
  rintro e u1 ⟨a1, n1, c1, rfl, hs1, hx⟩
  replace bp := Bl.ext hx bp (Nat.succ_pos _)
  replace HE := HE.trans hx
  clear hx
  go_wp2_with fail
  refine (HC2.out _ (H.out.ext HE) (HP.out.ext HE)).mono ?_
  rintro e u2 ⟨a2, n2, c2, rfl, hs2, hx⟩
  replace bp := Bl.ext hx bp (Nat.succ_pos _)
  replace hs1 := hs1.ext hx
  replace HE := HE.trans hx
  clear hx
  go_wp2_with fail
  refine (d_SameLn _ _ _ _ _ _ _ _ hs1 hs2).mono ?_
  rintro e u3 ⟨rfl, hx⟩
  replace bp := Bl.ext hx bp (Nat.succ_pos _)
  replace hs1 := hs1.ext hx
  replace hs2 := hs2.ext hx
  replace HE := HE.trans hx
  clear hx
  go_wp2_with fail
  refine (HLV.out _).mono ?_
  rintro e u4 ⟨rfl, hx⟩
  replace bp := Bl.ext hx bp (Nat.succ_pos _)
  replace hs1 := hs1.ext hx
  replace hs2 := hs2.ext hx
  replace HE := HE.trans hx
  clear hx
  go_wp2_with fail
  go_ret
  exact ⟨rfl, HE⟩

end Go.Proofs.Ytlhaepcnhkaclaa
