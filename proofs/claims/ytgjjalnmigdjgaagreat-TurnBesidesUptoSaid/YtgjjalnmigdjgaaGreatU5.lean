/- Turns: how often ways go around a spot. -/
import Derived.Test.YtgjjalnmigdjgaaGreatU4
import Derived.Test.YtgjjalnmigdjgaaGreatPT
namespace Go.Proofs.YtgjjalnmigdjgaaGreat
set_option linter.unusedVariables false
set_option linter.unusedSimpArgs false
open Go Go.RowKit
theorem cf2_enters {P : Program} {F : FuncId} {fn : Func} (hf : P.funcs[F]? = some fn) (hn : (fn.name == "runtime.NumGoroutine") = false) (hb : fn.body.isNone = false) (args : Array Value) (u : World) :
    (callFunc F args).run P u = .ok (.enter F args) u := by
  have hn' : ¬ fn.name = "runtime.NumGoroutine" := by simpa using hn
  have hb' : ¬ fn.body = none := fun h => by rw [h] at hb; cases hb
  simp [callFunc, Sem.run_bind, hf, hn', hb']
/-- Ways between points of the grid. -/
abbrev Sg := (Int × Int) × (Int × Int)
def sgs (l : List Sg) : List Value := l.flatMap fun g => [.int .i64 g.1.1, .int .i64 g.1.2, .int .i64 g.2.1, .int .i64 g.2.2]
theorem sgs_append (l m : List Sg) : sgs (l ++ m) = sgs l ++ sgs m := by simp [sgs]
theorem sgs_len (l : List Sg) : (sgs l).length = l.length * 4 := by
  induction l with
  | nil => rfl
  | cons a r ih => simp only [sgs, List.flatMap_cons, List.length_append, List.length_cons, List.length_nil] at ih ⊢; omega
theorem sgs_get (l : List Sg) (i : Nat) (h : i < l.length) : (sgs l)[i * 4]? = some (.int .i64 l[i].1.1) ∧ (sgs l)[i * 4 + 1]? = some (.int .i64 l[i].1.2) ∧ (sgs l)[i * 4 + 2]? = some (.int .i64 l[i].2.1) ∧ (sgs l)[i * 4 + 3]? = some (.int .i64 l[i].2.2) := by
  induction l generalizing i with
  | nil => exact absurd h (by simp)
  | cons a r ih =>
    cases i with
    | zero => simp [sgs]
    | succ k =>
      have := ih k (by simpa using h)
      have e0 : (k + 1) * 4 = 4 + k * 4 := by omega
      rw [e0]
      have g : ∀ j, (sgs (a :: r))[4 + j]? = (sgs r)[j]? := fun j => by
        show ([_, _, _, _] ++ sgs r)[4 + j]? = _
        rw [List.getElem?_append_right (by simp)]
        congr 1
        simp
      simp only [Nat.add_assoc, g]
      exact this
def SlG (w : World) (a : Option Addr) (n cap : Nat) (l : List Sg) : Prop := SlK 4 w a n cap (sgs l)
theorem SlG.len {w : World} {a : Option Addr} {n cap : Nat} {l : List Sg} (h : SlG w a n cap l) : l.length = n := by
  have := h.1
  rw [sgs_len] at this
  omega
theorem SlG.ext {w u : World} {a : Option Addr} {n cap : Nat} {l : List Sg} (h : SlG w a n cap l) (he : Ext w u) : SlG u a n cap l := SlK.ext h he
theorem SlG.at {w : World} {a : Option Addr} {n cap : Nat} {l : List Sg} (h : SlG w a n cap l) (h0 : 0 < n) : ∃ b off, a = some ⟨b, off, none⟩ ∧ ∀ (i : Nat) (hi : i < l.length), w.cell? ⟨b, off + i * 4, none⟩ = some (.int .i64 l[i].1.1) ∧ w.cell? ⟨b, off + i * 4 + 1, none⟩ = some (.int .i64 l[i].1.2) ∧ w.cell? ⟨b, off + i * 4 + 2, none⟩ = some (.int .i64 l[i].2.1) ∧ w.cell? ⟨b, off + i * 4 + 3, none⟩ = some (.int .i64 l[i].2.2) := by
  obtain ⟨b, off, e, hc⟩ := h.2.2.2 h0
  refine ⟨b, off, e, fun i hi => ?_⟩
  obtain ⟨g0, g1, g2, g3⟩ := sgs_get l i hi
  exact ⟨hc _ _ g0, hc _ _ g1, hc _ _ g2, hc _ _ g3⟩
def mayS (g : Sg) : Bool := fitP g.1.1 g.1.2 && fitP g.2.1 g.2.2
def onS (q r : Rat) (g : Sg) : Bool := onR g.1.1 g.1.2 g.2.1 g.2.2 q r
/-- What a way counts. -/
def cntF (q r : Rat) (g : Sg) : Int := passF (upF (decide ((g.1.2 : Rat) ≤ r)) (decide ((g.2.2 : Rat) ≤ r))) (sideR (g.1.1 : Rat) (g.1.2 : Rat) (g.2.1 : Rat) (g.2.2 : Rat) q r)
theorem cntF_bd (q r : Rat) (g : Sg) : -1 ≤ cntF q r g ∧ cntF q r g ≤ 1 := by
  unfold cntF passF upF
  split <;> (try split) <;> (try split) <;> omega
def turnsF (q r : Rat) : List Sg → Int → Int × Bool
  | [], s => (s, true)
  | g :: t, s => if mayS g = false then turnsF q r t s else if onS q r g = true then (0, false) else turnsF q r t (s + cntF q r g)
theorem turnsF_drop {q r : Rat} {l : List Sg} {j : Nat} {s : Int} (h : j < l.length) : turnsF q r (l.drop j) s = if mayS l[j] = false then turnsF q r (l.drop (j + 1)) s else if onS q r l[j] = true then (0, false) else turnsF q r (l.drop (j + 1)) (s + cntF q r l[j]) := by
  rw [List.drop_eq_getElem_cons h]
  rfl
set_option maxRecDepth 100000 in
set_option maxHeartbeats 8000000 in
theorem tu_Turns {b b' : Bool} {a d a' d' : Option Addr} {n c m k n' c' m' k' : Nat} {q r : Rat} {N : Nat} (sa : Option Addr) (sn sc : Nat) (l : List Sg) (w : World) (h : SlG w sa sn sc l) (hx : Fq w b a n c d m k q N) (hy : Fq w b' a' n' c' d' m' k' r N) (hN : N ≤ 17179869184) (hN1 : 2 ≤ N) (hsn : sn ≤ 4194304) :
    Calls Tryz.prog 7 #[.slice sa sn sc, .agg #[.bool b, .slice a n c, .slice d m k, .bool b', .slice a' n' c', .slice d' m' k']] w fun e w' => e = .returned (.tuple #[.int .i64 (turnsF q r l 0).1, .bool (turnsF q r l 0).2]) ∧ Ext w w' := by
 have H := hidP h; have HX := hidP hx; have HY := hidP hy
 have HLN := hidP h.len
 have hcap : sn ≤ maxLen := Nat.le_trans h.2.1 h.2.2.1
 unfold maxLen at hcap
 have HST := hidP (fun (j : Nat) (s : Int) (hj : j < l.length) => turnsF_drop (q := q) (r := r) (s := s) hj)
 have HCB := hidP (fun (g : Sg) => cntF_bd q r g)
 have HMY := hidP (fun (g : Sg) u => tu_may g.1.1 g.1.2 g.2.1 g.2.2 u)
 have cf := cf2_enters Tryz.func35 (by kernel_rfl) (by kernel_rfl)
 have HCF := hidP cf
 have hmf : ∀ (fn : Fn) (first cap : Array Value) (w : World), (Instr.makeFunc fn first cap).run Tryz.prog w = .ok (.func fn first cap) w := fun _ _ _ _ => rfl
 have HON := hidP (fun (g : Sg) (hg : mayS g = true) u (t1 : Fq u b a n c d m k q N) (t2 : Fq u b' a' n' c' d' m' k' r N) => by
  unfold mayS at hg
  have hg' := Bool.and_eq_true_iff.1 hg
  have g1 := fitP_iff.1 hg'.1; have g2 := fitP_iff.1 hg'.2
  exact tu_on g.1.1 g.1.2 g.2.1 g.2.2 u t1 t2 hN hN1 g1.1.1 g1.1.2 g1.2.1 g1.2.2 g2.1.1 g2.1.2 g2.2.1 g2.2.2)
 have HPS := hidP (fun (g : Sg) (hg : mayS g = true) u (P : Nat) (t0 : Bl u P #[.bool b, .slice a n c, .slice d m k, .bool b', .slice a' n' c', .slice d' m' k']) (t1 : Fq u b a n c d m k q N) (t2 : Fq u b' a' n' c' d' m' k' r N) => by
  unfold mayS at hg
  have hg' := Bool.and_eq_true_iff.1 hg
  have g1 := fitP_iff.1 hg'.1; have g2 := fitP_iff.1 hg'.2
  exact tu_passes 35 P (fun z => decide ((z : Rat) ≤ r)) g.1.1 g.1.2 g.2.1 g.2.2 u HCF.out (fun z v hv z1 z2 => tu_under P z v (q1b hv t0) (t2.ext hv) hN z1 z2) t1 t2 hN hN1 g1.1.1 g1.1.2 g1.2.1 g1.2.2 g2.1.1 g2.1.2 g2.2.1 g2.2.2)
 have HJ0 : Hid (turnsF q r (l.drop 0) 0 = turnsF q r l 0) := hidP rfl
 clear h hx hy
 generalize turnsF q r l 0 = R at *
 obtain ⟨R1, R2⟩ := R
 go_enter Tryz.func7, Tryz.ntmps7
 go_upto_region 2 with fail
 refine absW (fun x1 hx1 => ?_)
 have hx : Ext w x1 := by rw [hx1]; exact (((Ext.refl _).alloc _).alloc _)
 have bp : Bl x1 (w.heap.size) #[.bool b, .slice a n c, .slice d m k, .bool b', .slice a' n' c', .slice d' m' k'] := by rw [hx1]; exact ((Bl.new (by simp)).alloc (by simp))
 have bs : Bl x1 (w.heap.size + 1) #[.int .i64 0] := by rw [hx1]; exact (Bl.new (by simp))
 have fs : Fz x1 (w.heap.size + 1) := by rw [hx1]; exact (Fz.new (by simp))
 have HE := hx
 clear hx
 clear hx1
 go_wp2_with fail
 go_loopw [13] (fun iv wr => ∃ (j : Nat) (s : Int), j ≤ sn ∧ iv = .int .i64 (j : Int) ∧ -(j : Int) ≤ s ∧ s ≤ (j : Int) ∧ Bl wr w.heap.size #[.bool b, .slice a n c, .slice d m k, .bool b', .slice a' n' c', .slice d' m' k'] ∧ Bl wr (w.heap.size + 1) #[.int .i64 s] ∧ Fz wr (w.heap.size + 1) ∧ Hid (turnsF q r (l.drop j) s = (R1, R2)) ∧ Ext w wr) (fun iv _ => sn - (intOf iv).toNat)
 case atStart => exact ⟨0, 0, by omega, rfl, by omega, by omega, bp, bs, fs, HJ0, HE⟩
 clear HE bp bs fs HJ0
 obtain ⟨j, s, hj, rfl, s1, s2, bp, bs, fs, HJ, HE⟩ := hrel
 by_cases hlt : j < sn
 · obtain ⟨g, off, rfl, hc⟩ := (H.out.ext HE).at (by omega)
   have hjl : j < l.length := by rw [HLN.out]; exact hlt
   obtain ⟨c0, c1, c2, c3⟩ := hc j hjl
   have hst := HST.out j s hjl
   rw [HJ.out] at hst
   clear hc HJ
   have hmy := HMY.out l[j]
   have hon := HON.out l[j]
   have hps := HPS.out l[j]
   have hcb := HCB.out l[j]
   generalize l[j] = G at *
   change ∀ u, Calls _ _ _ u (fun e w' => e = .returned (.bool (mayS G)) ∧ Ext u w') at hmy
   change ∀ _ u _ _, Calls _ _ _ u (fun e w' => e = .returned (.bool (onS q r G)) ∧ Ext u w') at hon
   change ∀ _ u _ _ _ _, Calls _ _ _ u (fun e w' => e = .returned (.int .i64 (cntF q r G)) ∧ Ext u w') at hps
   generalize cntF q r G = cn at *
   generalize onS q r G = on at *
   generalize mayS G = ms at *
   obtain ⟨⟨ax, ay⟩, ⟨ex, ey⟩⟩ := G
   simp only [] at c0 c1 c2 c3 hmy hon hps
   obtain ⟨cb1, cb2⟩ := hcb
   have HMY1 := hidP hmy; have HON1 := hidP hon; have HPS1 := hidP hps
   clear hmy hon hps
   go_upto_region 6 with fail
   refine absW (fun x21 hx21 => ?_)
   have hx : Ext wr x21 := by rw [hx21]; exact ((Ext.refl _).alloc _)
   have bt : Bl x21 (wr.heap.size) #[.int .i64 ax, .int .i64 ay, .int .i64 ex, .int .i64 ey] := by rw [hx21]; exact (Bl.new (by simp))
   replace bp := q1b hx bp
   replace fs := q1f hx fs bs
   replace bs := q1b hx bs
   replace HE := HE.trans hx
   clear hx
   clear hx21
   clear c0 c1 c2 c3
   cases ms
   · have HST2 : Hid (turnsF q r (l.drop (j + 1)) s = (R1, R2)) := hidP (by rw [hst, if_pos rfl])
     clear hst HON1 HPS1
     go_wp2_with fail
     refine (HMY1.out _).mono ?_
     rintro e u1 ⟨rfl, hx⟩
     replace bp := q1b hx bp
     replace fs := q1f hx fs bs
     replace bs := q1b hx bs
     replace bt := q1b hx bt
     replace HE := HE.trans hx
     clear hx
     go_wp2_with fail
     go_roundw
     case rel => exact ⟨j + 1, s, by omega, by go_num, by omega, by omega, bp, bs, fs, HST2, HE⟩
     case measure => simp only [intOf]; omega
   rw [if_neg (by simp)] at hst
   cases on
   · have HST2 : Hid (turnsF q r (l.drop (j + 1)) (s + cn) = (R1, R2)) := hidP (by rw [hst, if_neg (by simp)])
     clear hst
     go_wp2_with fail
     refine (HMY1.out _).mono ?_
     rintro e u1 ⟨rfl, hx⟩
     replace bp := q1b hx bp
     replace fs := q1f hx fs bs
     replace bs := q1b hx bs
     replace bt := q1b hx bt
     replace HE := HE.trans hx
     clear hx
     go_wp2_with fail
     refine (HON1.out (by trivial) _ (HX.out.ext HE) (HY.out.ext HE)).mono ?_
     rintro e u2 ⟨rfl, hx⟩
     replace bp := q1b hx bp
     replace fs := q1f hx fs bs
     replace bs := q1b hx bs
     replace bt := q1b hx bt
     replace HE := HE.trans hx
     clear hx
     go_wp2_with fail
     refine (HPS1.out (by trivial) _ _ bp (HX.out.ext HE) (HY.out.ext HE)).mono ?_
     rintro e u3 ⟨rfl, hx⟩
     replace bp := q1b hx bp
     replace fs := q1f hx fs bs
     replace bs := q1b hx bs
     replace bt := q1b hx bt
     replace HE := HE.trans hx
     clear hx
     go_wp2_with fail
     refine (tu_add _ s cn _ bs fs (by omega) (by omega) cb1 cb2).mono ?_
     rintro e u4 ⟨⟨ue, rfl⟩, rfl⟩
     have hbut : But u3 (u3.setCell ⟨w.heap.size + 1, 0, none⟩ (.int .i64 (s + cn))) (w.heap.size + 1) := (But.refl _ _).store
     have hbs : Bl (u3.setCell ⟨w.heap.size + 1, 0, none⟩ (.int .i64 (s + cn))) (w.heap.size + 1) #[.int .i64 (s + cn)] := bs.set (by simp)
     have hfs : Fz (u3.setCell ⟨w.heap.size + 1, 0, none⟩ (.int .i64 (s + cn))) (w.heap.size + 1) := Fz.set fs
     have hbp := But.bl hbut bp (Nat.succ_pos _) (by omega)
     have hE4 : Ext w (u3.setCell ⟨w.heap.size + 1, 0, none⟩ (.int .i64 (s + cn))) := HE.store (by show w.heap.size ≤ w.heap.size + 1; omega) _
     clear hbut bs fs bp HE bt
     generalize u3.setCell ⟨w.heap.size + 1, 0, none⟩ (.int .i64 (s + cn)) = u5 at *
     go_wp2_with fail
     go_roundw
     case rel => exact ⟨j + 1, s + cn, by omega, by go_num, by omega, by omega, hbp, hbs, hfs, HST2, hE4⟩
     case measure => simp only [intOf]; omega
   rw [if_pos rfl] at hst
   simp only [Prod.mk.injEq] at hst
   obtain ⟨rfl, rfl⟩ := hst
   clear HPS1
   go_wp2_with fail
   refine (HMY1.out _).mono ?_
   rintro e u1 ⟨rfl, hx⟩
   replace bp := q1b hx bp
   replace fs := q1f hx fs bs
   replace bs := q1b hx bs
   replace bt := q1b hx bt
   replace HE := HE.trans hx
   clear hx
   go_wp2_with fail
   refine (HON1.out (by trivial) _ (HX.out.ext HE) (HY.out.ext HE)).mono ?_
   rintro e u2 ⟨rfl, hx⟩
   replace bp := q1b hx bp
   replace fs := q1f hx fs bs
   replace bs := q1b hx bs
   replace bt := q1b hx bt
   replace HE := HE.trans hx
   clear hx
   go_wp2_with fail
   go_ret2
   exact ⟨rfl, HE⟩
 obtain rfl : j = sn := by omega
 have hr : (s, true) = (R1, R2) := by have := HJ.out; rwa [List.drop_of_length_le (by rw [HLN.out]; omega)] at this
 simp only [Prod.mk.injEq] at hr
 obtain ⟨rfl, rfl⟩ := hr
 clear HJ
 go_wp2_with fail
 go_ret2
 exact ⟨rfl, HE⟩
end Go.Proofs.YtgjjalnmigdjgaaGreat
