/- TurnBesides: the law, walked. -/
import Derived.Test.YtgjjalnmigdjgaaGreatU19
import Derived.Test.YtgjjalnmigdjgaaGreatU13
import Derived.Test.YtgjjalnmigdjgaaGreatLH
import Derived.Test.YtgjjalnmigdjgaaGreatM7
namespace Go.Proofs.YtgjjalnmigdjgaaGreat
set_option linter.unusedVariables false
set_option linter.unusedSimpArgs false
open Go Go.RowKit
set_option maxRecDepth 100000 in
set_option maxHeartbeats 8000000 in
theorem tb_any {bx1 by1 : Bool} {ax1 dx1 ay1 dy1 : Option Addr} {nx1 cx1 mx1 kx1 ny1 cy1 my1 ky1 : Nat} {x1 y1 : Rat} {bx2 by2 : Bool} {ax2 dx2 ay2 dy2 : Option Addr} {nx2 cx2 mx2 kx2 ny2 cy2 my2 ky2 : Nat} {x2 y2 : Rat} {N : Nat} (sa : Option Addr) (sn sc : Nat) (l : List Sg) (w : World) (h : SlG w sa sn sc l) (hwf : ∀ g ∈ l, wfS g) (hx1 : Fq w bx1 ax1 nx1 cx1 dx1 mx1 kx1 x1 N) (hy1 : Fq w by1 ay1 ny1 cy1 dy1 my1 ky1 y1 N) (hx2 : Fq w bx2 ax2 nx2 cx2 dx2 mx2 kx2 x2 N) (hy2 : Fq w by2 ay2 ny2 cy2 dy2 my2 ky2 y2 N) (hN : N ≤ 1073741824) (hN1 : 2 ≤ N) (hsn : sn ≤ 4194304) :
    Calls Tryz.prog 4 #[.slice sa sn sc, .agg #[.bool bx1, .slice ax1 nx1 cx1, .slice dx1 mx1 kx1, .bool by1, .slice ay1 ny1 cy1, .slice dy1 my1 ky1, .bool bx2, .slice ax2 nx2 cx2, .slice dx2 mx2 kx2, .bool by2, .slice ay2 ny2 cy2, .slice dy2 my2 ky2]] w fun e w' => e = .returned (.bool true) ∧ Ext w w' := by
 have H := hidP h; have X1 := hidP hx1; have Y1 := hidP hy1; have X2 := hidP hx2; have Y2 := hidP hy2
 have HLV := hidP r19_lives
 have T1 := hidP (fun u (t0 : SlG u sa sn sc l) (t1 : Fq u bx1 ax1 nx1 cx1 dx1 mx1 kx1 x1 N) (t2 : Fq u by1 ay1 ny1 cy1 dy1 my1 ky1 y1 N) (t3 : Fq u bx2 ax2 nx2 cx2 dx2 mx2 kx2 x2 N) (t4 : Fq u by2 ay2 ny2 cy2 dy2 my2 ky2 y2 N) => tu_Beside sa sn sc l u t0 t1 t2 t3 t4 hN hN1 hsn)
 have T2 := hidP (fun u (t0 : SlG u sa sn sc l) (t1 : Fq u bx1 ax1 nx1 cx1 dx1 mx1 kx1 x1 N) (t2 : Fq u by1 ay1 ny1 cy1 dy1 my1 ky1 y1 N) (t3 : Fq u bx2 ax2 nx2 cx2 dx2 mx2 kx2 x2 N) (t4 : Fq u by2 ay2 ny2 cy2 dy2 my2 ky2 y2 N) => r19_Beside sa sn sc l u t0 hwf t1 t2 t3 t4 hN hN1 hsn)
 unfold retB at T2
 clear h hx1 hy1 hx2 hy2
 generalize besA x1 y1 x2 y2 l = R at *
 obtain ⟨R1, R2, R3⟩ := R
 simp only [] at T1 T2
 have eb : ∀ z : Bool, (z == z) = true := fun z => by cases z <;> rfl
 have ei : ∀ z : Int, (z == z) = true := fun z => by simp
 clear hwf
 go_enter Tryz.func4, Tryz.ntmps4
 go_wp2_with fail
 refine absC (fun x41 hx41 => ?_)
 have hx : Ext w x41 := by rw [hx41]; exact ((Ext.refl _).alloc _)
 have be : Bl x41 (w.heap.size) #[.bool bx1, .slice ax1 nx1 cx1, .slice dx1 mx1 kx1, .bool by1, .slice ay1 ny1 cy1, .slice dy1 my1 ky1, .bool bx2, .slice ax2 nx2 cx2, .slice dx2 mx2 kx2, .bool by2, .slice ay2 ny2 cy2, .slice dy2 my2 ky2] := by rw [hx41]; exact (Bl.new (by simp))
 have HE := hx
 clear hx
 clear hx41
 refine (T1.out _ (H.out.ext HE) (X1.out.ext HE) (Y1.out.ext HE) (X2.out.ext HE) (Y2.out.ext HE)).mono ?_
 rintro e u91 ⟨rfl, hx⟩
 replace be := q1b hx be
 replace HE := HE.trans hx
 clear hx
 go_wp2_with fail
 refine (T2.out _ (H.out.ext HE) (X1.out.ext HE) (Y1.out.ext HE) (X2.out.ext HE) (Y2.out.ext HE)).mono ?_
 rintro e u92 ⟨rfl, hx⟩
 replace be := q1b hx be
 replace HE := HE.trans hx
 clear hx
 go_wp2_with fail
 refine (HLV.out _).mono ?_
 rintro e u93 ⟨rfl, hx⟩
 replace be := q1b hx be
 replace HE := HE.trans hx
 clear hx
 go_wp2_with fail
 go_ret
 exact ⟨rfl, HE⟩
theorem fw_lift {w : World} {b : Bool} {a : Option Addr} {n c : Nat} {l : List Nat} {d : Option Addr} {m k : Nat} {e : List Nat} {B : Nat} (h : FwS w a n c l d m k e B) (hB : B ≤ 1048576) : Fq w b a n c d m k (mkRat (wz b (val B32 l)) (val B32 e)) 1048576 := by
  obtain ⟨hs, hl, hn, ht, he, hm⟩ := h
  have ws : ∀ {z : List Nat}, (∀ y ∈ z, (Lit.int .u32 (y : Int)).wf = true) → Ws z := fun hz y hy => wf_u32' (hz y hy)
  obtain ⟨hw, hd⟩ := wh_of (neg := b) hs (ws hl) (by omega)
  have hu : Nu w d m k (val B32 e) := ⟨⟨e, ht, ws he, rfl⟩, by omega⟩
  exact ⟨_, _, hw, hu, by omega, by omega, by have := hu.dl; omega, rfl⟩
theorem tb_lift (sa : Option Addr) (sn sc : Nat) (l : List Sg) (g1 : Bool) (a1 : Option Addr) (n1 c1 : Nat) (l1 : List Nat) (d1 : Option Addr) (m1 k1 : Nat) (e1 : List Nat) (g2 : Bool) (a2 : Option Addr) (n2 c2 : Nat) (l2 : List Nat) (d2 : Option Addr) (m2 k2 : Nat) (e2 : List Nat) (g3 : Bool) (a3 : Option Addr) (n3 c3 : Nat) (l3 : List Nat) (d3 : Option Addr) (m3 k3 : Nat) (e3 : List Nat) (g4 : Bool) (a4 : Option Addr) (n4 c4 : Nat) (l4 : List Nat) (d4 : Option Addr) (m4 k4 : Nat) (e4 : List Nat) (w : World) {B : Nat} (h : SlG w sa sn sc l) (hwf : ∀ g ∈ l, wfS g) (hsn : sn ≤ 4194304) (h1 : FwS w a1 n1 c1 l1 d1 m1 k1 e1 B) (h2 : FwS w a2 n2 c2 l2 d2 m2 k2 e2 B) (h3 : FwS w a3 n3 c3 l3 d3 m3 k3 e3 B) (h4 : FwS w a4 n4 c4 l4 d4 m4 k4 e4 B) (hB : B ≤ 1048576) :
    Calls Tryz.prog 4 #[.slice sa sn sc, .agg #[.bool g1, .slice a1 n1 c1, .slice d1 m1 k1, .bool g2, .slice a2 n2 c2, .slice d2 m2 k2, .bool g3, .slice a3 n3 c3, .slice d3 m3 k3, .bool g4, .slice a4 n4 c4, .slice d4 m4 k4]] w fun e w' => e = .returned (.bool true) ∧ Ext w w' :=
  tb_any sa sn sc l w h hwf (fw_lift h1 hB) (fw_lift h2 hB) (fw_lift h3 hB) (fw_lift h4 hB) (by omega) (by omega) hsn
end Go.Proofs.YtgjjalnmigdjgaaGreat
