/- Turns: what a way counts. -/
import Derived.Test.YtgjjalnmigdjgaaGreatU3
namespace Go.Proofs.YtgjjalnmigdjgaaGreat
set_option linter.unusedVariables false
set_option linter.unusedSimpArgs false
open Go Go.RowKit
/-- Is a spot on a way? -/
def onR (ax ay ex ey : Int) (q r : Rat) : Bool := decide (((min ax ex : Int) : Rat) ≤ q) && (!decide (((max ax ex : Int) : Rat) < q)) && decide (((min ay ey : Int) : Rat) ≤ r) && (!decide (((max ay ey : Int) : Rat) < r)) && (sideR (ax : Rat) (ay : Rat) (ex : Rat) (ey : Rat) q r == 0)
theorem sideR_bd (x1 y1 x2 y2 x3 y3 : Rat) : sideR x1 y1 x2 y2 x3 y3 = -1 ∨ sideR x1 y1 x2 y2 x3 y3 = 0 ∨ sideR x1 y1 x2 y2 x3 y3 = 1 := cmpQ_bd _ _
set_option maxRecDepth 100000 in
set_option maxHeartbeats 8000000 in
theorem tu_on {b b' : Bool} {a d a' d' : Option Addr} {n c m k n' c' m' k' : Nat} {q r : Rat} {N : Nat} (ax ay ex ey : Int) (w : World) (hx : Fq w b a n c d m k q N) (hy : Fq w b' a' n' c' d' m' k' r N) (hN : N ≤ 17179869184) (hN1 : 2 ≤ N) (x1 : -8388607 ≤ ax) (x2 : ax ≤ 8388607) (y1 : -8388607 ≤ ay) (y2 : ay ≤ 8388607) (x3 : -8388607 ≤ ex) (x4 : ex ≤ 8388607) (y3 : -8388607 ≤ ey) (y4 : ey ≤ 8388607) :
    Calls Tryz.prog 38 #[.agg #[.int .i64 ax, .int .i64 ay, .int .i64 ex, .int .i64 ey], .agg #[.bool b, .slice a n c, .slice d m k, .bool b', .slice a' n' c', .slice d' m' k']] w fun e w' => e = .returned (.bool (onR ax ay ex ey q r)) ∧ Ext w w' := by
 have HX := hidP hx; have HY := hidP hy
 have C1 := hidP (fun u (t : Fq u b a n c d m k q N) => tu_upTo (min ax ex) u t (by omega) (by omega) (by omega))
 have C2 := hidP (fun u (t : Fq u b a n c d m k q N) => tu_below (max ax ex) u t (by omega) (by omega) (by omega))
 have C3 := hidP (fun u (t : Fq u b' a' n' c' d' m' k' r N) => tu_upTo (min ay ey) u t (by omega) (by omega) (by omega))
 have C4 := hidP (fun u (t : Fq u b' a' n' c' d' m' k' r N) => tu_below (max ay ey) u t (by omega) (by omega) (by omega))
 have C5 := hidP (fun u (t1 : Fq u b a n c d m k q N) (t2 : Fq u b' a' n' c' d' m' k' r N) => sp_Side ax ay ex ey u t1 t2 hN hN1 (by omega) (by omega) (by omega) (by omega) (by omega) (by omega) (by omega) (by omega))
 have hsd := sideR_bd (ax : Rat) (ay : Rat) (ex : Rat) (ey : Rat) q r
 have HR : Hid (onR ax ay ex ey q r = (decide (((min ax ex : Int) : Rat) ≤ q) && (!decide (((max ax ex : Int) : Rat) < q)) && decide (((min ay ey : Int) : Rat) ≤ r) && (!decide (((max ay ey : Int) : Rat) < r)) && (sideR (ax : Rat) (ay : Rat) (ex : Rat) (ey : Rat) q r == 0))) := hidP rfl
 generalize onR ax ay ex ey q r = res at *
 generalize decide (((min ax ex : Int) : Rat) ≤ q) = f1 at *
 generalize decide (((max ax ex : Int) : Rat) < q) = f2 at *
 generalize decide (((min ay ey : Int) : Rat) ≤ r) = f3 at *
 generalize decide (((max ay ey : Int) : Rat) < r) = f4 at *
 generalize sideR (ax : Rat) (ay : Rat) (ex : Rat) (ey : Rat) q r = sd at *
 clear hx hy
 cases f1
 · have HRR : Hid (res = false) := hidP (by rw [HR.out]; rfl)
   clear HR
   go_enter Tryz.func38, Tryz.ntmps38
   go_wp2_with fail
   refine absC (fun x1 hx1 => ?_)
   have hx : Ext w x1 := by rw [hx1]; exact (((Ext.refl _).alloc _).alloc _)
   have bp : Bl x1 (w.heap.size) #[.int .i64 ax, .int .i64 ay, .int .i64 ex, .int .i64 ey] := by rw [hx1]; exact ((Bl.new (by simp)).alloc (by simp))
   have br : Bl x1 (w.heap.size + 1) #[.bool b, .slice a n c, .slice d m k, .bool b', .slice a' n' c', .slice d' m' k'] := by rw [hx1]; exact (Bl.new (by simp))
   have HE := hx
   clear hx
   clear hx1
   refine (C1.out _ (HX.out.ext HE)).mono ?_
   rintro e u1 ⟨rfl, hx⟩
   replace bp := q1b hx bp
   replace br := q1b hx br
   replace HE := HE.trans hx
   clear hx
   go_wp2_with fail
   go_ret
   exact ⟨congrArg (fun x => Ending.returned (Value.bool x)) HRR.out.symm, HE⟩
 cases f2
 · cases f3
   · have HRR : Hid (res = false) := hidP (by rw [HR.out]; rfl)
     clear HR
     go_enter Tryz.func38, Tryz.ntmps38
     go_wp2_with fail
     refine absC (fun x1 hx1 => ?_)
     have hx : Ext w x1 := by rw [hx1]; exact (((Ext.refl _).alloc _).alloc _)
     have bp : Bl x1 (w.heap.size) #[.int .i64 ax, .int .i64 ay, .int .i64 ex, .int .i64 ey] := by rw [hx1]; exact ((Bl.new (by simp)).alloc (by simp))
     have br : Bl x1 (w.heap.size + 1) #[.bool b, .slice a n c, .slice d m k, .bool b', .slice a' n' c', .slice d' m' k'] := by rw [hx1]; exact (Bl.new (by simp))
     have HE := hx
     clear hx
     clear hx1
     refine (C1.out _ (HX.out.ext HE)).mono ?_
     rintro e u1 ⟨rfl, hx⟩
     replace bp := q1b hx bp
     replace br := q1b hx br
     replace HE := HE.trans hx
     clear hx
     go_wp2_with fail
     refine (C2.out _ (HX.out.ext HE)).mono ?_
     rintro e u2 ⟨rfl, hx⟩
     replace bp := q1b hx bp
     replace br := q1b hx br
     replace HE := HE.trans hx
     clear hx
     go_wp2_with fail
     refine (C3.out _ (HY.out.ext HE)).mono ?_
     rintro e u3 ⟨rfl, hx⟩
     replace bp := q1b hx bp
     replace br := q1b hx br
     replace HE := HE.trans hx
     clear hx
     go_wp2_with fail
     go_ret
     exact ⟨congrArg (fun x => Ending.returned (Value.bool x)) HRR.out.symm, HE⟩
   cases f4
   · rcases hsd with h | h | h
     · subst h
       have HRR : Hid (res = false) := hidP (by rw [HR.out]; rfl)
       clear HR
       go_enter Tryz.func38, Tryz.ntmps38
       go_wp2_with fail
       refine absC (fun x1 hx1 => ?_)
       have hx : Ext w x1 := by rw [hx1]; exact (((Ext.refl _).alloc _).alloc _)
       have bp : Bl x1 (w.heap.size) #[.int .i64 ax, .int .i64 ay, .int .i64 ex, .int .i64 ey] := by rw [hx1]; exact ((Bl.new (by simp)).alloc (by simp))
       have br : Bl x1 (w.heap.size + 1) #[.bool b, .slice a n c, .slice d m k, .bool b', .slice a' n' c', .slice d' m' k'] := by rw [hx1]; exact (Bl.new (by simp))
       have HE := hx
       clear hx
       clear hx1
       refine (C1.out _ (HX.out.ext HE)).mono ?_
       rintro e u1 ⟨rfl, hx⟩
       replace bp := q1b hx bp
       replace br := q1b hx br
       replace HE := HE.trans hx
       clear hx
       go_wp2_with fail
       refine (C2.out _ (HX.out.ext HE)).mono ?_
       rintro e u2 ⟨rfl, hx⟩
       replace bp := q1b hx bp
       replace br := q1b hx br
       replace HE := HE.trans hx
       clear hx
       go_wp2_with fail
       refine (C3.out _ (HY.out.ext HE)).mono ?_
       rintro e u3 ⟨rfl, hx⟩
       replace bp := q1b hx bp
       replace br := q1b hx br
       replace HE := HE.trans hx
       clear hx
       go_wp2_with fail
       refine (C4.out _ (HY.out.ext HE)).mono ?_
       rintro e u4 ⟨rfl, hx⟩
       replace bp := q1b hx bp
       replace br := q1b hx br
       replace HE := HE.trans hx
       clear hx
       go_wp2_with fail
       refine (C5.out _ (HX.out.ext HE) (HY.out.ext HE)).mono ?_
       rintro e u5 ⟨rfl, hx⟩
       replace bp := q1b hx bp
       replace br := q1b hx br
       replace HE := HE.trans hx
       clear hx
       go_wp2_with fail
       go_ret
       exact ⟨congrArg (fun x => Ending.returned (Value.bool x)) HRR.out.symm, HE⟩
     · subst h
       have HRR : Hid (res = true) := hidP (by rw [HR.out]; rfl)
       clear HR
       go_enter Tryz.func38, Tryz.ntmps38
       go_wp2_with fail
       refine absC (fun x1 hx1 => ?_)
       have hx : Ext w x1 := by rw [hx1]; exact (((Ext.refl _).alloc _).alloc _)
       have bp : Bl x1 (w.heap.size) #[.int .i64 ax, .int .i64 ay, .int .i64 ex, .int .i64 ey] := by rw [hx1]; exact ((Bl.new (by simp)).alloc (by simp))
       have br : Bl x1 (w.heap.size + 1) #[.bool b, .slice a n c, .slice d m k, .bool b', .slice a' n' c', .slice d' m' k'] := by rw [hx1]; exact (Bl.new (by simp))
       have HE := hx
       clear hx
       clear hx1
       refine (C1.out _ (HX.out.ext HE)).mono ?_
       rintro e u1 ⟨rfl, hx⟩
       replace bp := q1b hx bp
       replace br := q1b hx br
       replace HE := HE.trans hx
       clear hx
       go_wp2_with fail
       refine (C2.out _ (HX.out.ext HE)).mono ?_
       rintro e u2 ⟨rfl, hx⟩
       replace bp := q1b hx bp
       replace br := q1b hx br
       replace HE := HE.trans hx
       clear hx
       go_wp2_with fail
       refine (C3.out _ (HY.out.ext HE)).mono ?_
       rintro e u3 ⟨rfl, hx⟩
       replace bp := q1b hx bp
       replace br := q1b hx br
       replace HE := HE.trans hx
       clear hx
       go_wp2_with fail
       refine (C4.out _ (HY.out.ext HE)).mono ?_
       rintro e u4 ⟨rfl, hx⟩
       replace bp := q1b hx bp
       replace br := q1b hx br
       replace HE := HE.trans hx
       clear hx
       go_wp2_with fail
       refine (C5.out _ (HX.out.ext HE) (HY.out.ext HE)).mono ?_
       rintro e u5 ⟨rfl, hx⟩
       replace bp := q1b hx bp
       replace br := q1b hx br
       replace HE := HE.trans hx
       clear hx
       go_wp2_with fail
       go_ret
       exact ⟨congrArg (fun x => Ending.returned (Value.bool x)) HRR.out.symm, HE⟩
     subst h
     have HRR : Hid (res = false) := hidP (by rw [HR.out]; rfl)
     clear HR
     go_enter Tryz.func38, Tryz.ntmps38
     go_wp2_with fail
     refine absC (fun x1 hx1 => ?_)
     have hx : Ext w x1 := by rw [hx1]; exact (((Ext.refl _).alloc _).alloc _)
     have bp : Bl x1 (w.heap.size) #[.int .i64 ax, .int .i64 ay, .int .i64 ex, .int .i64 ey] := by rw [hx1]; exact ((Bl.new (by simp)).alloc (by simp))
     have br : Bl x1 (w.heap.size + 1) #[.bool b, .slice a n c, .slice d m k, .bool b', .slice a' n' c', .slice d' m' k'] := by rw [hx1]; exact (Bl.new (by simp))
     have HE := hx
     clear hx
     clear hx1
     refine (C1.out _ (HX.out.ext HE)).mono ?_
     rintro e u1 ⟨rfl, hx⟩
     replace bp := q1b hx bp
     replace br := q1b hx br
     replace HE := HE.trans hx
     clear hx
     go_wp2_with fail
     refine (C2.out _ (HX.out.ext HE)).mono ?_
     rintro e u2 ⟨rfl, hx⟩
     replace bp := q1b hx bp
     replace br := q1b hx br
     replace HE := HE.trans hx
     clear hx
     go_wp2_with fail
     refine (C3.out _ (HY.out.ext HE)).mono ?_
     rintro e u3 ⟨rfl, hx⟩
     replace bp := q1b hx bp
     replace br := q1b hx br
     replace HE := HE.trans hx
     clear hx
     go_wp2_with fail
     refine (C4.out _ (HY.out.ext HE)).mono ?_
     rintro e u4 ⟨rfl, hx⟩
     replace bp := q1b hx bp
     replace br := q1b hx br
     replace HE := HE.trans hx
     clear hx
     go_wp2_with fail
     refine (C5.out _ (HX.out.ext HE) (HY.out.ext HE)).mono ?_
     rintro e u5 ⟨rfl, hx⟩
     replace bp := q1b hx bp
     replace br := q1b hx br
     replace HE := HE.trans hx
     clear hx
     go_wp2_with fail
     go_ret
     exact ⟨congrArg (fun x => Ending.returned (Value.bool x)) HRR.out.symm, HE⟩
   have HRR : Hid (res = false) := hidP (by rw [HR.out]; rfl)
   clear HR
   go_enter Tryz.func38, Tryz.ntmps38
   go_wp2_with fail
   refine absC (fun x1 hx1 => ?_)
   have hx : Ext w x1 := by rw [hx1]; exact (((Ext.refl _).alloc _).alloc _)
   have bp : Bl x1 (w.heap.size) #[.int .i64 ax, .int .i64 ay, .int .i64 ex, .int .i64 ey] := by rw [hx1]; exact ((Bl.new (by simp)).alloc (by simp))
   have br : Bl x1 (w.heap.size + 1) #[.bool b, .slice a n c, .slice d m k, .bool b', .slice a' n' c', .slice d' m' k'] := by rw [hx1]; exact (Bl.new (by simp))
   have HE := hx
   clear hx
   clear hx1
   refine (C1.out _ (HX.out.ext HE)).mono ?_
   rintro e u1 ⟨rfl, hx⟩
   replace bp := q1b hx bp
   replace br := q1b hx br
   replace HE := HE.trans hx
   clear hx
   go_wp2_with fail
   refine (C2.out _ (HX.out.ext HE)).mono ?_
   rintro e u2 ⟨rfl, hx⟩
   replace bp := q1b hx bp
   replace br := q1b hx br
   replace HE := HE.trans hx
   clear hx
   go_wp2_with fail
   refine (C3.out _ (HY.out.ext HE)).mono ?_
   rintro e u3 ⟨rfl, hx⟩
   replace bp := q1b hx bp
   replace br := q1b hx br
   replace HE := HE.trans hx
   clear hx
   go_wp2_with fail
   refine (C4.out _ (HY.out.ext HE)).mono ?_
   rintro e u4 ⟨rfl, hx⟩
   replace bp := q1b hx bp
   replace br := q1b hx br
   replace HE := HE.trans hx
   clear hx
   go_wp2_with fail
   go_ret
   exact ⟨congrArg (fun x => Ending.returned (Value.bool x)) HRR.out.symm, HE⟩
 have HRR : Hid (res = false) := hidP (by rw [HR.out]; rfl)
 clear HR
 go_enter Tryz.func38, Tryz.ntmps38
 go_wp2_with fail
 refine absC (fun x1 hx1 => ?_)
 have hx : Ext w x1 := by rw [hx1]; exact (((Ext.refl _).alloc _).alloc _)
 have bp : Bl x1 (w.heap.size) #[.int .i64 ax, .int .i64 ay, .int .i64 ex, .int .i64 ey] := by rw [hx1]; exact ((Bl.new (by simp)).alloc (by simp))
 have br : Bl x1 (w.heap.size + 1) #[.bool b, .slice a n c, .slice d m k, .bool b', .slice a' n' c', .slice d' m' k'] := by rw [hx1]; exact (Bl.new (by simp))
 have HE := hx
 clear hx
 clear hx1
 refine (C1.out _ (HX.out.ext HE)).mono ?_
 rintro e u1 ⟨rfl, hx⟩
 replace bp := q1b hx bp
 replace br := q1b hx br
 replace HE := HE.trans hx
 clear hx
 go_wp2_with fail
 refine (C2.out _ (HX.out.ext HE)).mono ?_
 rintro e u2 ⟨rfl, hx⟩
 replace bp := q1b hx bp
 replace br := q1b hx br
 replace HE := HE.trans hx
 clear hx
 go_wp2_with fail
 go_ret
 exact ⟨congrArg (fun x => Ending.returned (Value.bool x)) HRR.out.symm, HE⟩
/-- 1 for a way that goes up past a height, -1 for one that goes down. -/
def upF (a b : Bool) : Int := if a = true ∧ b = false then 1 else if b = true ∧ a = false then -1 else 0
set_option maxRecDepth 100000 in
set_option maxHeartbeats 4000000 in
theorem tu_upward (K P : Nat) (f : Int → Bool) (ax ay ex ey : Int) (w : World) (hcf : ∀ args u, (callFunc K args).run Tryz.prog u = .ok (.enter K args) u) (hdo : ∀ z u, Ext w u → -8388607 ≤ z → z ≤ 8388607 → Calls Tryz.prog K #[.int .i64 z, .pointer (some ⟨P, 0, none⟩)] u fun e u' => e = .returned (.bool (f z)) ∧ Ext u u') (x1 : -8388607 ≤ ax) (x2 : ax ≤ 8388607) (y1 : -8388607 ≤ ay) (y2 : ay ≤ 8388607) (x3 : -8388607 ≤ ex) (x4 : ex ≤ 8388607) (y3 : -8388607 ≤ ey) (y4 : ey ≤ 8388607) :
    Calls Tryz.prog 80 #[.agg #[.int .i64 ax, .int .i64 ay, .int .i64 ex, .int .i64 ey], .func (.func K) #[] #[.pointer (some ⟨P, 0, none⟩)]] w fun e w' => e = .returned (.int .i64 (upF (f ay) (f ey))) ∧ Ext w w' := by
 have D1 := hidP (fun u (t : Ext w u) => hdo ay u t y1 y2)
 have D2 := hidP (fun u (t : Ext w u) => hdo ey u t y3 y4)
 clear hdo
 generalize f ay = g1 at *
 generalize f ey = g2 at *
 cases g1 <;> cases g2
 all_goals (
  go_enter Tryz.func80, Tryz.ntmps80
  go_wp2_with fail
  refine absW (fun x1 hx1 => ?_)
  have hx : Ext w x1 := by rw [hx1]; exact ((Ext.refl _).alloc _)
  have bp : Bl x1 (w.heap.size) #[.int .i64 ax, .int .i64 ay, .int .i64 ex, .int .i64 ey] := by rw [hx1]; exact (Bl.new (by simp))
  have HE := hx
  clear hx
  clear hx1
  refine wp_region_plan (R := Ext) (.q 0 (.q 1 (.q 2 (.q 3 (.q 5 (.q 6 (.q 7 (.q 8 (.l 4 (.l 9 (.q 10 (.q 11 .done)))))))))))) (by kernel_rfl) (by kernel_rfl) (by kernel_rfl) (by kernel_rfl) Ext.refl (fun _ _ _ => Ext.trans) ?_
  refine absE (fun x2 hx2 => ?_)
  have hx : Ext x1 x2 := by rw [hx2]; exact (Ext.refl _).drew
  replace bp := q1b hx bp
  replace HE := HE.trans hx
  clear hx
  clear hx2
  repeat (refine wpE_q (v := ?_) rfl rfl (fun u hu => ?_) ?_; rotate_left 1; (focus (have kp := q1b hu bp; go_simp; (try rfl))); simp only [PU])
  refine wpE_l rfl rfl (fun K hK => ?_)
  go_simp
  refine (D1.out _ HE).mono ?_
  rintro e u1 ⟨rfl, hx⟩
  refine hK.out _ _ hx ?_
  clear hK K
  try simp only [PU]
  replace bp := q1b hx bp
  replace HE := HE.trans hx
  clear hx
  refine wpE_l rfl rfl (fun K hK => ?_)
  go_simp
  refine (D2.out _ HE).mono ?_
  rintro e u2 ⟨rfl, hx⟩
  refine hK.out _ _ hx ?_
  clear hK K
  try simp only [PU]
  replace bp := q1b hx bp
  replace HE := HE.trans hx
  clear hx
  repeat (refine wpE_q (v := ?_) rfl rfl (fun u hu => ?_) ?_; rotate_left 1; (focus (have kp := q1b hu bp; go_simp; (try rfl))); simp only [PU])
  refine wpE_done ?_
  go_wp2_with fail
  go_ret
  exact ⟨rfl, HE⟩)
/-- What a way counts for a spot that isn't on it. -/
def passF (up sd : Int) : Int := if up ≠ 0 ∧ sd = up then up else 0
set_option maxRecDepth 100000 in
set_option maxHeartbeats 8000000 in
theorem tu_passes {b b' : Bool} {a d a' d' : Option Addr} {n c m k n' c' m' k' : Nat} {q r : Rat} {N : Nat} (K P : Nat) (f : Int → Bool) (ax ay ex ey : Int) (w : World) (hcf : ∀ args u, (callFunc K args).run Tryz.prog u = .ok (.enter K args) u) (hdo : ∀ z u, Ext w u → -8388607 ≤ z → z ≤ 8388607 → Calls Tryz.prog K #[.int .i64 z, .pointer (some ⟨P, 0, none⟩)] u fun e u' => e = .returned (.bool (f z)) ∧ Ext u u') (hx : Fq w b a n c d m k q N) (hy : Fq w b' a' n' c' d' m' k' r N) (hN : N ≤ 17179869184) (hN1 : 2 ≤ N) (x1 : -8388607 ≤ ax) (x2 : ax ≤ 8388607) (y1 : -8388607 ≤ ay) (y2 : ay ≤ 8388607) (x3 : -8388607 ≤ ex) (x4 : ex ≤ 8388607) (y3 : -8388607 ≤ ey) (y4 : ey ≤ 8388607) :
    Calls Tryz.prog 40 #[.agg #[.int .i64 ax, .int .i64 ay, .int .i64 ex, .int .i64 ey], .agg #[.bool b, .slice a n c, .slice d m k, .bool b', .slice a' n' c', .slice d' m' k'], .func (.func K) #[] #[.pointer (some ⟨P, 0, none⟩)]] w fun e w' => e = .returned (.int .i64 (passF (upF (f ay) (f ey)) (sideR (ax : Rat) (ay : Rat) (ex : Rat) (ey : Rat) q r))) ∧ Ext w w' := by
 have HX := hidP hx; have HY := hidP hy
 have U := hidP (fun u (t : Ext w u) => tu_upward K P f ax ay ex ey u hcf (fun z v h => hdo z v (t.trans h)) x1 x2 y1 y2 x3 x4 y3 y4)
 have C5 := hidP (fun u (t1 : Fq u b a n c d m k q N) (t2 : Fq u b' a' n' c' d' m' k' r N) => sp_Side ax ay ex ey u t1 t2 hN hN1 (by omega) (by omega) (by omega) (by omega) (by omega) (by omega) (by omega) (by omega))
 have hsd := sideR_bd (ax : Rat) (ay : Rat) (ex : Rat) (ey : Rat) q r
 have hup : upF (f ay) (f ey) = -1 ∨ upF (f ay) (f ey) = 0 ∨ upF (f ay) (f ey) = 1 := by
  cases f ay <;> cases f ey <;> decide
 generalize sideR (ax : Rat) (ay : Rat) (ex : Rat) (ey : Rat) q r = sd at *
 generalize upF (f ay) (f ey) = up at *
 clear hx hy hdo
 rcases hup with hu | hu | hu
 · subst hu
   rcases hsd with hs | hs | hs <;> subst hs
   all_goals (
    go_enter Tryz.func40, Tryz.ntmps40
    go_wp2_with fail
    refine absC (fun x1 hx1 => ?_)
    have hx : Ext w x1 := by rw [hx1]; exact (((Ext.refl _).alloc _).alloc _)
    have bp : Bl x1 (w.heap.size) #[.int .i64 ax, .int .i64 ay, .int .i64 ex, .int .i64 ey] := by rw [hx1]; exact ((Bl.new (by simp)).alloc (by simp))
    have br : Bl x1 (w.heap.size + 1) #[.bool b, .slice a n c, .slice d m k, .bool b', .slice a' n' c', .slice d' m' k'] := by rw [hx1]; exact (Bl.new (by simp))
    have HE := hx
    clear hx
    clear hx1
    refine (U.out _ HE).mono ?_
    rintro e u1 ⟨rfl, hx⟩
    replace bp := q1b hx bp
    replace br := q1b hx br
    replace HE := HE.trans hx
    clear hx
    go_wp2_with fail
    refine (C5.out _ (HX.out.ext HE) (HY.out.ext HE)).mono ?_
    rintro e u2 ⟨rfl, hx⟩
    replace bp := q1b hx bp
    replace br := q1b hx br
    replace HE := HE.trans hx
    clear hx
    go_wp2_with fail
    go_ret
    exact ⟨rfl, HE⟩)
 · subst hu
   have hz : passF 0 sd = 0 := if_neg (fun h => h.1 rfl)
   rw [hz]
   go_enter Tryz.func40, Tryz.ntmps40
   go_wp2_with fail
   refine absC (fun x1 hx1 => ?_)
   have hx : Ext w x1 := by rw [hx1]; exact (((Ext.refl _).alloc _).alloc _)
   have bp : Bl x1 (w.heap.size) #[.int .i64 ax, .int .i64 ay, .int .i64 ex, .int .i64 ey] := by rw [hx1]; exact ((Bl.new (by simp)).alloc (by simp))
   have br : Bl x1 (w.heap.size + 1) #[.bool b, .slice a n c, .slice d m k, .bool b', .slice a' n' c', .slice d' m' k'] := by rw [hx1]; exact (Bl.new (by simp))
   have HE := hx
   clear hx
   clear hx1
   refine (U.out _ HE).mono ?_
   rintro e u1 ⟨rfl, hx⟩
   replace bp := q1b hx bp
   replace br := q1b hx br
   replace HE := HE.trans hx
   clear hx
   go_wp2_with fail
   go_ret
   exact ⟨rfl, HE⟩
 subst hu
 rcases hsd with hs | hs | hs <;> subst hs
 all_goals (
  go_enter Tryz.func40, Tryz.ntmps40
  go_wp2_with fail
  refine absC (fun x1 hx1 => ?_)
  have hx : Ext w x1 := by rw [hx1]; exact (((Ext.refl _).alloc _).alloc _)
  have bp : Bl x1 (w.heap.size) #[.int .i64 ax, .int .i64 ay, .int .i64 ex, .int .i64 ey] := by rw [hx1]; exact ((Bl.new (by simp)).alloc (by simp))
  have br : Bl x1 (w.heap.size + 1) #[.bool b, .slice a n c, .slice d m k, .bool b', .slice a' n' c', .slice d' m' k'] := by rw [hx1]; exact (Bl.new (by simp))
  have HE := hx
  clear hx
  clear hx1
  refine (U.out _ HE).mono ?_
  rintro e u1 ⟨rfl, hx⟩
  replace bp := q1b hx bp
  replace br := q1b hx br
  replace HE := HE.trans hx
  clear hx
  go_wp2_with fail
  refine (C5.out _ (HX.out.ext HE) (HY.out.ext HE)).mono ?_
  rintro e u2 ⟨rfl, hx⟩
  replace bp := q1b hx bp
  replace br := q1b hx br
  replace HE := HE.trans hx
  clear hx
  go_wp2_with fail
  go_ret
  exact ⟨rfl, HE⟩)
set_option maxRecDepth 100000 in
set_option maxHeartbeats 4000000 in
theorem tu_add (C : Nat) (s i : Int) (w : World) (hb : Bl w C #[.int .i64 s]) (hf : Fz w C) (s1 : -4611686018427387904 ≤ s) (s2 : s ≤ 4611686018427387904) (i1 : -1 ≤ i) (i2 : i ≤ 1) :
    Calls Tryz.prog 39 #[.pointer (some ⟨C, 0, none⟩), .int .i64 i] w fun e w' => (∃ u, e = .returned u) ∧ w' = w.setCell ⟨C, 0, none⟩ (.int .i64 (s + i)) := by
  have k0 : w.cell? ⟨C, 0, none⟩ = some (.int .i64 s) := hb 0
  have f0 : w.frozen? ⟨C, 0, none⟩ = false := hf 0
  go_enter Tryz.func39, Tryz.ntmps39
  go_wp2_with fail
  go_end0
  exact ⟨⟨_, rfl⟩, rfl⟩
set_option maxRecDepth 100000 in
set_option maxHeartbeats 4000000 in
theorem tu_under {b b' : Bool} {a d a' d' : Option Addr} {n c m k n' c' m' k' : Nat} {r : Rat} {N : Nat} (P : Nat) (z : Int) (w : World) (hb : Bl w P #[.bool b, .slice a n c, .slice d m k, .bool b', .slice a' n' c', .slice d' m' k']) (hy : Fq w b' a' n' c' d' m' k' r N) (hN : N ≤ 17179869184) (z1 : -8388607 ≤ z) (z2 : z ≤ 8388607) :
    Calls Tryz.prog 35 #[.int .i64 z, .pointer (some ⟨P, 0, none⟩)] w fun e w' => e = .returned (.bool (decide ((z : Rat) ≤ r))) ∧ Ext w w' := by
  have C1 := hidP (tu_upTo z w hy (by omega) (by omega) (by omega))
  have k3 : w.cell? ⟨P, 3, none⟩ = some (.bool b') := hb 3
  have k4 : w.cell? ⟨P, 4, none⟩ = some (.slice a' n' c') := hb 4
  have k5 : w.cell? ⟨P, 5, none⟩ = some (.slice d' m' k') := hb 5
  clear hy hb
  go_enter Tryz.func35, Tryz.ntmps35
  go_wp2_with fail
  refine C1.out.mono ?_
  rintro e u1 ⟨rfl, hx⟩
  go_wp2_with fail
  go_ret
  exact ⟨rfl, hx⟩
theorem tmod2 (n : Int) : n.tmod 2 = 0 ∨ n.tmod 2 = 1 ∨ n.tmod 2 = -1 := by
  rcases Int.lt_or_le n 0 with h | h
  · have e : n.tmod 2 = -((-n).tmod 2) := by rw [Int.neg_tmod, Int.neg_neg]
    rw [e, Int.tmod_eq_emod_of_nonneg (by omega)]
    omega
  · rw [Int.tmod_eq_emod_of_nonneg h]; omega
/-- By a rule. -/
def inF (n rule : Int) : Bool := (rule == 0 && !(n == 0)) || (rule == 1 && !(n.tmod 2 == 0))
set_option maxRecDepth 100000 in
set_option maxHeartbeats 4000000 in
theorem tu_In (n rule : Int) (w : World) (n1 : -9223372036854775808 ≤ n) (n2 : n ≤ 9223372036854775807) : Calls Tryz.prog 11 #[.int .i64 n, .int .i64 rule] w fun e w' => e = .returned (.bool (inF n rule)) ∧ Ext w w' := by
  rcases (by omega : rule = 0 ∨ rule = 1 ∨ (rule ≠ 0 ∧ rule ≠ 1)) with h | h | ⟨h1, h2⟩
  · subst h
    have hr : inF n 0 = !(n == 0) := by unfold inF; simp
    rw [hr]
    by_cases hn : n = 0
    · subst hn
      go_enter Tryz.func11, Tryz.ntmps11
      go_wp2_with fail
      go_ret
      exact ⟨rfl, Ext.refl _⟩
    · have hnb : (n == 0) = false := by simp [hn]
      have hnb2 : (n != 0) = true := by simp [hn]
      rw [hnb]
      go_enter Tryz.func11, Tryz.ntmps11
      go_wp2_with fail
      go_ret
      exact ⟨rfl, Ext.refl _⟩
  · subst h
    have hr : inF n 1 = !(n.tmod 2 == 0) := by unfold inF; simp
    rw [hr]
    rcases (by have h1 := Int.emod_two_eq n; have h2 := tmod2 n; omega : n.tmod 2 = 0 ∨ n.tmod 2 = 1 ∨ n.tmod 2 = -1) with h | h | h
    all_goals (
      rw [h]
      go_enter Tryz.func11, Tryz.ntmps11
      go_wp2_with fail
      go_ret
      exact ⟨rfl, Ext.refl _⟩)
  · have hr : inF n rule = false := by unfold inF; simp [h1, h2]
    rw [hr]
    have b1 : (rule == 0) = false := by simp [h1]
    have b2 : (rule == 1) = false := by simp [h2]
    go_enter Tryz.func11, Tryz.ntmps11
    go_wp2_with fail
    go_ret
    exact ⟨rfl, Ext.refl _⟩
end Go.Proofs.YtgjjalnmigdjgaaGreat
