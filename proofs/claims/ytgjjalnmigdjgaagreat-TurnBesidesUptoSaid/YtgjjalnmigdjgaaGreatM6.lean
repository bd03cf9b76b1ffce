/- Joined: R1 R2 R3 R4 R5 R6. -/
import Derived.Test.YtgjjalnmigdjgaaGreatM4
import Derived.Deep.DeepCutAuto
import Derived.Deep.CutBlock
import Derived.WalkMore
import Derived.ScopeJumps
namespace Go.Proofs.YtgjjalnmigdjgaaGreat
set_option linter.unusedVariables false
open Go Go.RowKit
theorem Nc.uniq {w : World} {a : Option Addr} {n cap V V' : Nat} (h : Nc w a n cap V) (h' : Nc w a n cap V') : V = V' := by
  have hl : (dig B32 V).length = (dig B32 V').length := by rw [Sl.int_len h, Sl.int_len h']
  have e : dig B32 V = dig B32 V' := by
    refine List.ext_getElem hl fun i hi hi' => ?_
    have h0 : 0 < n := by have := Sl.int_len h; omega
    obtain ⟨b, off, ha, hc⟩ := Sl.at_int h h0
    obtain ⟨b', off', ha', hc'⟩ := Sl.at_int h' h0
    rw [ha] at ha'
    simp only [Option.some.injEq, Addr.mk.injEq, and_true] at ha'
    obtain ⟨rfl, rfl⟩ := ha'
    have h1 := hc i hi
    rw [hc' i hi'] at h1
    simp at h1
    omega
  exact dig_inj.1 e
theorem uR_yes {V : Nat} (h : V ≤ 18446744073709551615) : uintR V = .tuple #[.int .u64 (V : Int), .bool true] := by unfold uintR; rw [if_pos h]
theorem uR_no {V : Nat} (h : ¬ V ≤ 18446744073709551615) : uintR V = .tuple #[.int .u64 0, .bool false] := by unfold uintR; rw [if_neg h]
open Classical in
/-- The number that a slice stands for. -/
noncomputable def rdv (w : World) (v : Value) : Nat := if h : ∃ V a n c, v = .slice a n c ∧ Nc w a n c V then Classical.choose h else 0
theorem rdv_eq {w : World} {a : Option Addr} {n c V : Nat} (h : Nc w a n c V) : rdv w (.slice a n c) = V := by
  have he : ∃ V a' n' c', Value.slice a n c = .slice a' n' c' ∧ Nc w a' n' c' V := ⟨V, a, n, c, rfl, h⟩
  unfold rdv
  rw [dif_pos he]
  obtain ⟨a', n', c', e, h2⟩ := Classical.choose_spec he
  cases e
  exact h2.uniq h
theorem p_one (w : World) : Calls Tryz.prog 198 #[] w (RetN w 1) := by
  go_enter Tryz.func198, Tryz.ntmps198
  go_wp2
  go_ret
  exact ⟨_, _, _, rfl, Nc.lit1 w 1 (by omega) (by omega) _, (Ext.refl _).alloc _⟩
set_option maxHeartbeats 1000000 in
theorem p_small (a b : Nat) (w : World) (ha : a ≤ 18446744073709551615) (hb : b ≤ 18446744073709551615) :
    Calls Tryz.prog 217 #[.int .u64 a, .int .u64 b] w fun e w' => e = .returned (.int .u64 (Nat.gcd a b : Nat)) ∧ Ext w w' := by
  generalize hg : Nat.gcd a b = g
  have HG := hidP hg; clear hg
  go_enter Tryz.func217, Tryz.ntmps217
  go_wp2
  go_loopw [0, 1] (fun xv yv wr => ∃ x y : Nat, xv = .int .u64 x ∧ yv = .int .u64 y ∧ x ≤ 18446744073709551615 ∧ y ≤ 18446744073709551615 ∧ Nat.gcd x y = g ∧ Ext w wr) (fun _ yv _ => (intOf yv).toNat)
  case atStart => exact ⟨a, b, rfl, rfl, ha, hb, HG.out, Ext.refl _⟩
  case round =>
    obtain ⟨x, y, rfl, rfl, hx, hy, hxy, he⟩ := hrel
    have HXY := hidP hxy; clear hxy
    by_cases h0 : 0 < y
    · have hw2 : (x : Int).tmod (y : Int) = ((x % y : Nat) : Int) := by rw [IntWalk.rem_in _ _ (by omega)]; rfl
      have hz : ¬ y = 0 := by omega
      have hm := Nat.mod_lt x h0
      have HM : Hid (Nat.gcd y (x % y) = g) := hidP (by rw [Nat.gcd_comm, ← Nat.gcd_rec, Nat.gcd_comm]; exact HXY.out)
      generalize x % y = r at *
      go_wp2
      go_quiet (fail)
      go_wp2
      go_roundw
      case rel => exact ⟨y, r, rfl, rfl, hy, by omega, HM.out, he.drewN _⟩
      case measure => simp only [intOf]; omega
    · obtain rfl : y = 0 := by omega
      have HX : Hid (x = g) := hidP (by rw [← HXY.out, Nat.gcd_zero_right])
      go_wp2
      go_ret
      exact ⟨ret_int (by rw [HX.out]), he⟩
set_option maxRecDepth 100000 in
set_option maxHeartbeats 2000000 in
theorem p_Gcd {a a' : Option Addr} {n cap n' cap' A B : Nat} {w : World} (h : Nu w a n cap A) (h' : Nu w a' n' cap' B) :
    Calls Tryz.prog 197 #[.slice a n cap, .slice a' n' cap'] w (RetN w (Nat.gcd A B)) := by
 have dA : dl A ≤ 1099511627776 := by have := h.dl; have := h.2; omega
 have dB : dl B ≤ 1099511627776 := by have := h'.dl; have := h'.2; omega
 generalize hg : Nat.gcd A B = g
 have HG := hidP hg; clear hg
 have H := hidP h; have H' := hidP h'; clear h h'
 go_enter Tryz.func197, Tryz.ntmps197
 go_wp2_with fail
 refine (n_Trim H.out).mono ?_
 rintro e u1 ⟨a1, n1, c1, rfl, hs1, HE⟩
 go_wp2_with fail
 refine (n_Trim (H'.out.ext HE)).mono ?_
 rintro e u2 ⟨a2, n2, c2, rfl, hs2, he⟩
 replace hs1 := hs1.ext he
 replace HE := HE.trans he
 clear he
 go_wp2_with fail
 go_loopw [0, 1] (fun xv yv wr => ∃ (X Y : Nat) (ax ay : Option Addr) (nx cx ny cy : Nat), xv = .slice ax nx cx ∧ yv = .slice ay ny cy ∧ Nc wr ax nx cx X ∧ Nc wr ay ny cy Y ∧ dl X ≤ 1099511627776 ∧ dl Y ≤ 1099511627776 ∧ Nat.gcd X Y = g ∧ Ext w wr) (fun _ yv wr => rdv wr yv)
 case atStart => exact ⟨A, B, a1, a2, n1, c1, n2, c2, rfl, rfl, hs1, hs2, dA, dB, HG.out, HE⟩
 clear hs1 hs2 HE dA dB
 obtain ⟨X, Y, ax, ay, nx, cx, ny, cy, rfl, rfl, hx, hy, dx, dy, hxy, he⟩ := hrel
 have HXY := hidP hxy; clear hxy
 have HX := hidP hx; have HY := hidP hy
 have hlen := hy.len
 have U1 := hidP (n_Uint (hx.nu dx)); have U2 := hidP (n_Uint (hy.nu dy))
 have D := hidP (n_Div (hx.nu dx) (hy.nu dy))
 have HRD : Hid (rdv wr (.slice ay ny cy) = Y) := hidP (rdv_eq hy)
 clear hx hy
 by_cases h1 : X ≤ 18446744073709551615 ∧ Y ≤ 18446744073709551615
 · have hu1 := uR_yes h1.1
   have hu2 := uR_yes h1.2
   rw [hu1] at U1
   rw [hu2] at U2
   have hX := h1.1; have hY := h1.2
   clear h1 hu1 hu2
   have HLEN := hidP hlen; clear hlen
   go_wp2_with fail
   refine U1.out.mono ?_
   rintro e u ⟨rfl, rfl⟩
   go_wp2_with fail
   refine U2.out.mono ?_
   rintro e u ⟨rfl, rfl⟩
   have hgb : g ≤ 18446744073709551615 := by
    rw [← HXY.out]
    rcases Nat.eq_zero_or_pos X with h0 | h0
    · rw [h0, Nat.gcd_zero_left]; exact hY
    exact Nat.le_trans (Nat.gcd_le_left Y h0) hX
   go_wp2_with fail
   refine (p_small X Y _ hX hY).mono ?_
   rw [HXY.out]
   rintro e u3 ⟨rfl, he3⟩
   go_wp2_with fail
   refine (n_Of g _ hgb).mono ?_
   rintro e u4 ⟨a4, n4, c4, rfl, hs4, he4⟩
   go_wp2_with fail
   go_ret
   exact ⟨_, _, _, rfl, hs4, he.trans (he3.trans he4)⟩
 have hU : Hid (∃ v1 v2 b1 b2, uintR X = .tuple #[.int .u64 v1, .bool b1] ∧ uintR Y = .tuple #[.int .u64 v2, .bool b2] ∧ (b1 && b2) = false) := hidP (by
  by_cases hX : X ≤ 18446744073709551615
  · have hY : ¬ Y ≤ 18446744073709551615 := fun h => h1 ⟨hX, h⟩
    exact ⟨_, _, _, _, uR_yes hX, uR_no hY, rfl⟩
  by_cases hY : Y ≤ 18446744073709551615
  · exact ⟨_, _, _, _, uR_no hX, uR_yes hY, rfl⟩
  exact ⟨_, _, _, _, uR_no hX, uR_no hY, rfl⟩)
 obtain ⟨v1, v2, b1, b2, hu1, hu2, hbb⟩ := hU.out
 rw [hu1] at U1
 rw [hu2] at U2
 clear hU hu1 hu2 h1
 by_cases hy0 : Y = 0
 · have hny : ny = 0 := by rw [hlen, hy0, dl_zero]
   subst hny
   have HXG : Hid (Nc wr ax nx cx g) := hidP (by rw [← HXY.out, hy0, Nat.gcd_zero_right]; exact HX.out)
   clear hy0 hlen
   cases b1
   · go_wp2_with fail
     refine U1.out.mono ?_
     rintro e u ⟨rfl, rfl⟩
     go_wp2_with fail
     refine U2.out.mono ?_
     rintro e u ⟨rfl, rfl⟩
     go_wp2_with fail
     go_ret
     exact ⟨_, _, _, rfl, HXG.out, he⟩
   obtain rfl : b2 = false := by simpa using hbb
   clear hbb
   go_wp2_with fail
   refine U1.out.mono ?_
   rintro e u ⟨rfl, rfl⟩
   go_wp2_with fail
   refine U2.out.mono ?_
   rintro e u ⟨rfl, rfl⟩
   go_wp2_with fail
   go_ret
   exact ⟨_, _, _, rfl, HXG.out, he⟩
 have hny : 0 < ny := by rw [hlen]; rcases Nat.eq_zero_or_pos (dl Y) with h | h; (exact absurd (dl_eq_zero.1 h) hy0); exact h
 have hnz : ((ny : Int) == 0) = false := by simp; omega
 have hdv := D.out
 unfold RetQR at hdv
 rw [decide_eq_true hy0, if_neg hy0, if_neg hy0] at hdv
 have HDV := hidP hdv
 have hml := Nat.mod_lt X (Nat.pos_of_ne_zero hy0)
 have hdm := dl_mod X Y
 have HGN : Hid (Nat.gcd Y (X % Y) = g) := hidP (by rw [Nat.gcd_comm, ← Nat.gcd_rec, Nat.gcd_comm]; exact HXY.out)
 have HLEN := hidP hlen
 clear hdv D hlen hy0
 generalize X / Y = q at *
 generalize X % Y = r at *
 have HML := hidP hml; clear hml
 cases b1
 · go_wp2_with fail
   refine U1.out.mono ?_
   rintro e u ⟨rfl, rfl⟩
   go_wp2_with fail
   refine U2.out.mono ?_
   rintro e u ⟨rfl, rfl⟩
   go_wp2_with fail
   refine HDV.out.mono ?_
   rintro e u3 ⟨aq, nq, cq, ar, nr, cr, rfl, hq, hr, he3⟩
   have HYE := hidP (HY.out.ext he3)
   have HR := hidP hr
   have HQ := hidP hq
   clear hr hq
   go_wp2_with fail
   go_roundw
   case rel => exact ⟨Y, r, ay, ar, ny, cy, nr, cr, rfl, rfl, HYE.out, HR.out, dy, by omega, HGN.out, he.trans he3⟩
   case measure =>
    rw [HRD.out, rdv_eq HR.out]
    exact HML.out
 obtain rfl : b2 = false := by simpa using hbb
 clear hbb
 go_wp2_with fail
 refine U1.out.mono ?_
 rintro e u ⟨rfl, rfl⟩
 go_wp2_with fail
 refine U2.out.mono ?_
 rintro e u ⟨rfl, rfl⟩
 go_wp2_with fail
 refine HDV.out.mono ?_
 rintro e u3 ⟨aq, nq, cq, ar, nr, cr, rfl, hq, hr, he3⟩
 have HYE := hidP (HY.out.ext he3)
 have HR := hidP hr
 have HQ := hidP hq
 clear hr hq
 go_wp2_with fail
 go_roundw
 case rel => exact ⟨Y, r, ay, ar, ny, cy, nr, cr, rfl, rfl, HYE.out, HR.out, dy, by omega, HGN.out, he.trans he3⟩
 case measure =>
  rw [HRD.out, rdv_eq HR.out]
  exact HML.out
/-- Two numbers. -/
def RetN2 (w : World) (V V' : Nat) (e : Ending) (w' : World) : Prop := ∃ a n cap a' n' cap', e = .returned (.tuple #[.slice a n cap, .slice a' n' cap']) ∧ Nc w' a n cap V ∧ Nc w' a' n' cap' V' ∧ Ext w w'
theorem cmpI_eq {a b : Nat} : cmpI a b = 0 ↔ a = b := by
  unfold cmpI
  split
  · constructor <;> intro h <;> omega
  · split
    · constructor <;> intro h <;> omega
    · constructor <;> intro h <;> omega
set_option maxRecDepth 100000 in
set_option maxHeartbeats 2000000 in
theorem p_Reduce {a a' : Option Addr} {n cap n' cap' A B : Nat} {w : World} (h : Nu w a n cap A) (h' : Nu w a' n' cap' B) :
    Calls Tryz.prog 173 #[.slice a n cap, .slice a' n' cap'] w (RetN2 w (A / Nat.gcd A B) (B / Nat.gcd A B)) := by
 have dA : dl A ≤ 1099511627776 := by have := h.dl; have := h.2; omega
 have dB : dl B ≤ 1099511627776 := by have := h'.dl; have := h'.2; omega
 have G := hidP (p_Gcd h h')
 have hg0 := fun hz : Nat.gcd A B = 0 => And.intro (Nat.eq_zero_of_gcd_eq_zero_left hz) (Nat.eq_zero_of_gcd_eq_zero_right hz)
 have hdg : Nat.gcd A B ≠ 0 → dl (Nat.gcd A B) ≤ 1099511627776 := fun h0 => by
  rcases Nat.eq_zero_or_pos A with ha | ha
  · rw [ha, Nat.gcd_zero_left]; exact dB
  exact Nat.le_trans (dl_mono (Nat.gcd_le_left B ha)) dA
 generalize Nat.gcd A B = g at *
 have H := hidP h; have H' := hidP h'
 have HG0 := hidP hg0
 clear h h' hg0
 go_enter Tryz.func173, Tryz.ntmps173
 go_wp2_with fail
 refine G.out.mono ?_
 rintro e u1 ⟨a1, n1, c1, rfl, hs1, HE⟩
 have hlen := hs1.len
 by_cases hg : g = 0
 · have hn1 : n1 = 0 := by rw [hlen, hg, dl_zero]
   subst hn1
   have HZ := hidP (HG0.out hg)
   have HG := hidP hg
   clear hlen hg hs1 hdg
   go_wp2_with fail
   refine (n_Trim (H.out.ext HE)).mono ?_
   rintro e u2 ⟨a2, n2, c2, rfl, hs2, he⟩
   replace HE := HE.trans he
   clear he
   go_wp2_with fail
   refine (n_Trim (H'.out.ext HE)).mono ?_
   rintro e u3 ⟨a3, n3, c3, rfl, hs3, he⟩
   replace hs2 := hs2.ext he
   have HS2 := hidP hs2; have HS3 := hidP hs3
   clear hs2 hs3
   go_wp2_with fail
   go_ret2
   exact ⟨_, _, _, _, _, _, rfl, by rw [HG.out, Nat.div_zero]; have := HS2.out; rwa [HZ.out.1] at this, by rw [HG.out, Nat.div_zero]; have := HS3.out; rwa [HZ.out.2] at this, HE.trans he⟩
 have hn1 : 0 < n1 := by rw [hlen]; rcases Nat.eq_zero_or_pos (dl g) with h | h; (exact absurd (dl_eq_zero.1 h) hg); exact h
 have hnz : ((n1 : Int) == 0) = false := by simp; omega
 have hcz : (cmpI g 1 == 0) = decide (g = 1) := by rw [Bool.eq_iff_iff]; simp [cmpI_eq]
 have HDG := hidP (hdg hg)
 have HLEN := hidP hlen
 have HGZ := hidP hg
 have HS1 := hidP hs1
 clear hlen hg hdg hs1
 go_wp2_with fail
 refine (p_one _).mono ?_
 rintro e u2 ⟨a2, n2, c2, rfl, hs2, he⟩
 replace HS1 := hidP (HS1.out.ext he)
 replace HE := HE.trans he
 clear he
 have HS2 := hidP hs2; clear hs2
 by_cases hg1 : g = 1
 · have hc0 : cmpI g 1 = 0 := cmpI_eq.2 hg1
   have HG1 := hidP hg1; have HC0 := hidP hc0
   clear hg1 hcz hc0
   go_wp2_with fail
   refine (n_Cmp (HS1.out.nu HDG.out) (HS2.out.nu (by have := dl_small (a := 1) (by omega); omega))).mono ?_
   rw [HC0.out]
   rintro e u3 ⟨rfl, he⟩
   replace HE := HE.trans he
   clear he
   go_wp2_with fail
   refine (n_Trim (H.out.ext HE)).mono ?_
   rintro e u4 ⟨a4, n4, c4, rfl, hs4, he⟩
   replace HE := HE.trans he
   clear he
   go_wp2_with fail
   refine (n_Trim (H'.out.ext HE)).mono ?_
   rintro e u5 ⟨a5, n5, c5, rfl, hs5, he⟩
   replace hs4 := hs4.ext he
   have HS4 := hidP hs4; have HS5 := hidP hs5
   clear hs4 hs5
   go_wp2_with fail
   go_ret2
   exact ⟨_, _, _, _, _, _, rfl, by rw [HG1.out, Nat.div_one]; exact HS4.out, by rw [HG1.out, Nat.div_one]; exact HS5.out, HE.trans he⟩
 have hc0 : ¬ cmpI g 1 = 0 := fun h => hg1 (cmpI_eq.1 h)
 have hc1 : (cmpI g 1 == 0) = false := by simpa using hc0
 have hcm := fun u t1 t2 => @n_Cmp a1 a2 n1 c1 n2 c2 g 1 u t1 t2
 generalize cmpI g 1 = cc at *
 have HCM := hidP hcm
 clear hcm hg1 hcz
 go_wp2_with fail
 refine (HCM.out _ (HS1.out.nu HDG.out) (HS2.out.nu (by have := dl_small (a := 1) (by omega); omega))).mono ?_
 rintro e u3 ⟨rfl, he⟩
 replace HS1 := hidP (HS1.out.ext he)
 replace HE := HE.trans he
 clear he
 have hd1 := n_Div (H.out.ext HE) (HS1.out.nu HDG.out)
 unfold RetQR at hd1
 rw [decide_eq_true HGZ.out, if_neg HGZ.out, if_neg HGZ.out] at hd1
 have HD1 := hidP hd1; clear hd1
 go_wp2_with fail
 refine HD1.out.mono ?_
 rintro e u4 ⟨aq, nq, cq, ar, nr, cr, rfl, hq, hr, he⟩
 replace HS1 := hidP (HS1.out.ext he)
 replace HE := HE.trans he
 clear he hr HD1
 have HQ := hidP hq; clear hq
 have hd2 := n_Div (H'.out.ext HE) (HS1.out.nu HDG.out)
 unfold RetQR at hd2
 rw [decide_eq_true HGZ.out, if_neg HGZ.out, if_neg HGZ.out] at hd2
 have HD2 := hidP hd2; clear hd2
 go_wp2_with fail
 refine HD2.out.mono ?_
 rintro e u5 ⟨aq2, nq2, cq2, ar2, nr2, cr2, rfl, hq2, hr2, he⟩
 have HQ2 := hidP hq2; clear hq2 hr2
 have HQE := hidP (HQ.out.ext he)
 go_wp2_with fail
 go_ret2
 exact ⟨_, _, _, _, _, _, rfl, HQE.out, HQ2.out, HE.trans he⟩
end Go.Proofs.YtgjjalnmigdjgaaGreat
namespace Go.Proofs.YtgjjalnmigdjgaaGreat
set_option linter.unusedVariables false
open Go Go.RowKit
/-- A number's own words, each as 64 bits. -/
def Qc (w : World) (a : Option Addr) (n cap V : Nat) : Prop := Sl w a n cap (ints .u64 (dig B32 V))
theorem Qc.ext {w u : World} {a : Option Addr} {n cap V : Nat} (h : Qc w a n cap V) (he : Ext w u) : Qc u a n cap V := Sl.ext h he
theorem Qc.len {w : World} {a : Option Addr} {n cap V : Nat} (h : Qc w a n cap V) : n = dl V := (Sl.int_len h).symm
def RetQ (w : World) (V : Nat) (e : Ending) (w' : World) : Prop := ∃ a n cap, e = .returned (.slice a n cap) ∧ Qc w' a n cap V ∧ Ext w w'
set_option maxRecDepth 100000 in
set_option maxHeartbeats 1000000 in
theorem q_copied {a : Option Addr} {n cap V : Nat} {w : World} (h : Nc w a n cap V) (hb : dl V ≤ 1099511627776) : Calls Tryz.prog 202 #[.slice a n cap] w (RetQ w V) := by
  have hn := h.len
  have hW : Ws (dig B32 V) := Ws.dig _
  have hl : (dig B32 V).length = n := hn.symm
  have hs : Sl w a n cap (ints .u32 (dig B32 V)) := h
  unfold RetQ Qc
  generalize dig B32 V = X at *
  have HN := hidP hn; have HL := hidP hl
  have hnb : n ≤ 1099511627776 := by omega
  clear h hn hl
  go_enter Tryz.func202, Tryz.ntmps202
  go_wp2
  go_loopw [3, 4] (fun v iv wr => ∃ k : Nat, k ≤ n ∧ iv = .int .i64 k ∧ wr.ownsRow w.heap.size 143 1 v k (ints .u64 (X.take k)) ∧ Ext w wr) (fun _ iv _ => n - (intOf iv).toNat)
  case atStart => exact ⟨0, by omega, rfl, World.ownsRow_nil _ _ _ _, Ext.refl _⟩
  case round =>
    obtain ⟨k, hk, rfl, hown, he⟩ := hrel
    by_cases h0 : k < n
    · obtain ⟨b, off, rfl, hc⟩ := (hs.ext he).at_int (by omega)
      have hck := hc k (by have := HL.out; omega)
      clear hc
      have HT : Hid (X.take (k + 1) = X.take k ++ [X[k]'(by have := HL.out; omega)]) := hidP (List.take_succ_eq_append_getElem _)
      have hxb := hW.at k (by have := HL.out; omega)
      generalize X[k]'(by have := HL.out; omega) = p at *
      go_wp2_with (at_builtin; refine wpList_app1 T_u64' rfl _ _ rfl hown he _ rfl rfl rfl (by omega) (by omega) ?_; intro v' w' hown' he')
      go_roundw
      case rel => exact ⟨k + 1, by omega, by go_num, by rw [HT.out, ints_append]; exact hown', he'⟩
      case measure => simp only [intOf]; omega
    · obtain rfl : k = n := by omega
      have HTT : Hid (X.take k = X) := hidP (List.take_of_length_le (by have := HL.out; omega))
      obtain ⟨a5, cap5, rfl, hsl⟩ := Sl.of_owns hown
      go_wp2
      go_ret
      exact ⟨_, _, _, rfl, by rw [← HTT.out]; exact hsl, he⟩
set_option maxRecDepth 100000 in
set_option maxHeartbeats 1000000 in
theorem q_zero {a : Option Addr} {n cap V : Nat} {w : World} (h : Qc w a n cap V) (hb : dl V ≤ 1099511627776) : Calls Tryz.prog 203 #[.slice a n cap] w fun e w' => e = .returned (.bool (decide (V = 0))) ∧ w = w' := by
 have hn := h.len
 have hC := canon_dig B32_two V
 have hl : (dig B32 V).length = n := hn.symm
 have hs : Sl w a n cap (ints .u64 (dig B32 V)) := h
 have hnb : n ≤ 1099511627776 := by omega
 have hz : V = 0 ↔ n = 0 := by rw [hn]; exact dl_eq_zero.symm
 have hv := val_dig B32_two V
 generalize dig B32 V = X at *
 generalize hbz : decide (V = 0) = bz
 have HB : Hid (n = 0 → bz = true) := hidP (fun h => by rw [← hbz]; exact decide_eq_true (hz.2 h))
 have HB2 : Hid (0 < n → bz = false) := hidP (fun h => by rw [← hbz]; exact decide_eq_false (fun h2 => by have := hz.1 h2; omega))
 have HTOP : Hid (0 < n → X.getD (n - 1) 0 ≠ 0) := hidP (fun h0 => by
  have hne : X ≠ [] := by intro hx; subst hx; simp at hl; omega
  have := hC.2 hne
  rw [List.getLast_eq_getElem] at this
  rw [List.getD_eq_getElem?_getD, List.getElem?_eq_getElem (by omega)]
  simpa [hl] using this)
 have HN := hidP hn; have HL := hidP hl
 clear h hn hl hz hv hC hbz
 go_enter Tryz.func203, Tryz.ntmps203
 go_wp2
 go_loop [3] (fun iv => ∃ k : Nat, k ≤ n ∧ iv = .int .i64 k ∧ ∀ j, j < k → X.getD j 0 = 0) (fun iv => n - (intOf iv).toNat)
 case atStart => exact ⟨0, by omega, rfl, fun j hj => by omega⟩
 obtain ⟨k, hk, rfl, hall⟩ := hrel
 have HALL := hidP hall; clear hall
 by_cases h0 : k < n
 · obtain ⟨b, off, rfl, hc⟩ := hs.at_int (by omega)
   have hck := hc k (by have := HL.out; omega)
   clear hc
   have HX : Hid (X.getD k 0 = X[k]'(by have := HL.out; omega)) := hidP (by rw [List.getD_eq_getElem?_getD, List.getElem?_eq_getElem (by have := HL.out; omega)]; rfl)
   generalize X[k]'(by have := HL.out; omega) = p at *
   by_cases hp : p = 0
   · subst hp
     go_wp2
     go_round
     case rel =>
      refine ⟨k + 1, by omega, by go_num, fun j hj => ?_⟩
      by_cases hjk : j = k
      · subst hjk; exact HX.out
      exact HALL.out j (by omega)
     case measure => simp only [intOf]; omega
   have hpz : ((p : Int) == 0) = false := by simpa using hp
   have hbf := HB2.out (by omega)
   subst hbf
   clear HB HB2
   go_wp2
   go_ret
   exact ⟨rfl, rfl⟩
 obtain rfl : k = n := by omega
 have hk0 : k = 0 := by
  rcases Nat.eq_zero_or_pos k with h | h
  · exact h
  exact absurd (HALL.out (k - 1) (by omega)) (HTOP.out h)
 have hbf := HB.out hk0
 subst hbf
 clear HB HB2
 go_wp2
 go_ret
 exact ⟨rfl, rfl⟩
set_option maxRecDepth 100000 in
set_option maxHeartbeats 2000000 in
theorem q_halved {a : Option Addr} {n cap V : Nat} {w : World} (h : Qc w a n cap V) (hb : dl V ≤ 1099511627776) : Calls Tryz.prog 204 #[.slice a n cap] w (RetQ w (V / 2)) := by
 have hn := h.len
 have hW : Ws (dig B32 V) := Ws.dig _
 have hl : (dig B32 V).length = n := hn.symm
 have hs : Sl w a n cap (ints .u64 (dig B32 V)) := h
 have hnb : n ≤ 1099511627776 := by omega
 have hv := val_dig B32_two V
 have hlt : V < B32 ^ n := by rw [hn]; exact dl_lt V
 generalize dig B32 V = X at *
 have HN := hidP hn; have HL := hidP hl; have HV0 := hidP hv; have HLT := hidP hlt
 clear h hn hl hv hlt
 go_enter Tryz.func204, Tryz.ntmps204
 go_wp2
 go_loopw [3, 4] (fun v iv wr => ∃ (k : Nat) (D : List Nat), k ≤ n ∧ iv = .int .i64 k ∧ wr.ownsRow w.heap.size 143 1 v k (ints .u64 D) ∧ Ext w wr ∧ D.length = k ∧ Ws D ∧ val B32 D = val B32 X / 2 ^ 1 % B32 ^ k) (fun _ iv _ => n - (intOf iv).toNat)
 case atStart => exact ⟨0, [], by omega, rfl, World.ownsRow_nil _ _ _ _, Ext.refl _, rfl, by simp [Ws], by simp [val, Nat.mod_one]⟩
 obtain ⟨k, D, hk, rfl, hown, he, hDl, hD, hv⟩ := hrel
 have HV := hidP hv; have HDL := hidP hDl; clear hv hDl
 by_cases h0 : k < n
 · obtain ⟨b, off, rfl, hc⟩ := (hs.ext he).at_int (by omega)
   have hck := hc k (by have := HL.out; omega)
   have hp1 := hW.at k (by have := HL.out; omega)
   have HX : Hid (X.getD k 0 = X[k]'(by have := HL.out; omega)) := hidP (by rw [List.getD_eq_getElem?_getD, List.getElem?_eq_getElem (by have := HL.out; omega)]; rfl)
   generalize X[k]'(by have := HL.out; omega) = p at *
   by_cases h1 : k + 1 < n
   · have hck' := hc (k + 1) (by have := HL.out; omega)
     have hq1 := hW.at (k + 1) (by have := HL.out; omega)
     have HX' : Hid (X.getD (k + 1) 0 = X[k + 1]'(by have := HL.out; omega)) := hidP (by rw [List.getD_eq_getElem?_getD, List.getElem?_eq_getElem (by have := HL.out; omega)]; rfl)
     generalize X[k + 1]'(by have := HL.out; omega) = q at *
     clear hc
     obtain ⟨d, hd⟩ : ∃ d, d = p / 2 + q % 2 * 2147483648 := ⟨_, rfl⟩
     have hdb : d < 4294967296 := by omega
     have HDD : Hid (d = (p + 4294967296 * q) / 2 % 4294967296) := hidP (by rw [hd]; omega)
     have hdi : (p : Int) / 2 + (q : Int) % 2 * 2147483648 = (d : Int) := by omega
     clear hd
     go_wp2_with (at_builtin; refine wpList_app1 T_u64' rfl _ _ rfl hown he _ rfl rfl rfl (by omega) (by omega) ?_; intro v' w' hown' he')
     go_roundw
     case rel =>
      refine ⟨k + 1, D ++ [d], by omega, by go_num, by rw [ints_append]; exact hown', he', by have := HDL.out; simp; omega, ?_, ?_⟩
      · intro y hy
        rcases List.mem_append.1 hy with hy | hy
        · exact hD y hy
        simp at hy; subst hy; exact hdb
      have h9 := shr_step (l := X) (k := 0) (j := k) (less := 1) (by omega) hW (by have := HL.out; omega) HV.out
      rw [HX.out, HX'.out, Nat.pow_one, ← HDD.out] at h9
      rw [val_snoc, HDL.out, Nat.pow_one]
      exact h9
     case measure => simp only [intOf]; omega
   have HX' : Hid (X.getD (k + 1) 0 = 0) := hidP (by rw [List.getD_eq_getElem?_getD, List.getElem?_eq_none (by have := HL.out; omega)]; rfl)
   clear hc
   obtain ⟨d, hd⟩ : ∃ d, d = p / 2 := ⟨_, rfl⟩
   have hdb : d < 4294967296 := by omega
   have HDD : Hid (d = (p + 4294967296 * 0) / 2 % 4294967296) := hidP (by rw [hd]; omega)
   have hdi : (p : Int) / 2 = (d : Int) := by omega
   clear hd
   go_wp2_with (at_builtin; refine wpList_app1 T_u64' rfl _ _ rfl hown he _ rfl rfl rfl (by omega) (by omega) ?_; intro v' w' hown' he')
   go_roundw
   case rel =>
    refine ⟨k + 1, D ++ [d], by omega, by go_num, by rw [ints_append]; exact hown', he', by have := HDL.out; simp; omega, ?_, ?_⟩
    · intro y hy
      rcases List.mem_append.1 hy with hy | hy
      · exact hD y hy
      simp at hy; subst hy; exact hdb
    have h9 := shr_step (l := X) (k := 0) (j := k) (less := 1) (by omega) hW (by have := HL.out; omega) HV.out
    rw [HX.out, HX'.out, Nat.pow_one, ← HDD.out] at h9
    rw [val_snoc, HDL.out, Nat.pow_one]
    exact h9
   case measure => simp only [intOf]; omega
 obtain rfl : k = n := by omega
 obtain ⟨a5, cap5, rfl, hsl⟩ := Sl.of_owns hown
 have HVD : Hid (val B32 D = V / 2) := hidP (by
  rw [HV.out, HV0.out, Nat.pow_one, Nat.mod_eq_of_lt]
  exact Nat.lt_of_le_of_lt (Nat.div_le_self _ _) HLT.out)
 have HFIN : Hid (∀ aa kk, Sl wr aa kk cap5 (ints .u64 (dig B32 (val B32 D))) → RetQ w (V / 2) (.returned (.slice aa kk cap5)) wr) := hidP (fun aa kk hh => ⟨_, _, _, rfl, by rw [← HVD.out]; exact hh, he⟩)
 have HSL := hidP hsl; have HDW := hidP hD
 have hcap5 := hsl.2.1
 have hcm5 := hsl.2.2.1
 unfold maxLen at hcm5
 clear hsl hown hD HV hs HLT HL HN
 generalize RetQ w (V / 2) = RR at *
 generalize k = n0 at *
 go_wp2
 go_loop [3] (fun v => ∃ k : Nat, k ≤ n0 ∧ v = .slice a5 k cap5 ∧ val B32 (D.take k) = val B32 D) (fun v => sliceLen v)
 case atStart => exact ⟨n0, by omega, rfl, by rw [List.take_of_length_le (by have := HDL.out; omega)]⟩
 obtain ⟨k, hk, rfl, hv⟩ := hrel
 have HV := hidP hv; clear hv
 by_cases h0 : 0 < k
 · obtain ⟨i, rfl⟩ : ∃ i, k = i + 1 := ⟨k - 1, by omega⟩
   obtain ⟨b5, off5, rfl, hc⟩ := HSL.out.at_int (by omega)
   have hck := hc i (by have := HDL.out; omega)
   clear hc
   have hi : i < D.length := by have := HDL.out; omega
   by_cases hz : D[i] = 0
   · have HZ : Hid (val B32 (D.take i) = val B32 D) := hidP (by rw [← HV.out, ← val_take_of_zero B32 D i hi hz])
     rw [hz] at hck
     clear hz hi
     go_wp2
     go_round
     case rel => exact ⟨i, by omega, by go_num, HZ.out⟩
     case measure => simp [sliceLen]
   have HFN := hidP (HFIN.out (some ⟨b5, off5, none⟩) (i + 1) (by
    have h1 := HSL.out.take (i + 1) (by omega)
    rw [ints_take, take_dig B32_two D HDW.out (i + 1) (by omega) (.inr ⟨by simpa using hi, by simpa using hz⟩) HV.out] at h1
    exact h1))
   generalize D[i] = dd at *
   have hdz : ((dd : Int) == 0) = false := by simpa using hz
   clear hi
   go_wp2
   first | exact HFN.out | (go_ret; exact HFN.out)
 obtain rfl : k = 0 := by omega
 have HFN := hidP (HFIN.out a5 0 (by
  have h1 := HSL.out.take 0 (by omega)
  have h2 := HV.out
  simp only [List.take_zero, val] at h2
  rw [← h2, dig_zero]
  simpa [ints] using h1))
 go_wp2
 first | exact HFN.out | (go_ret; exact HFN.out)
theorem lt_by_len {a b : Nat} (h : dl a < dl b) : a < b := by
  rcases Nat.lt_or_ge a b with h1 | h1
  · exact h1
  · have := dl_mono h1; omega
set_option maxRecDepth 100000 in
set_option maxHeartbeats 2000000 in
theorem q_below {a a' : Option Addr} {n cap n' cap' V V' : Nat} {w : World} (h : Qc w a n cap V) (h' : Qc w a' n' cap' V') (hb : dl V ≤ 1099511627776) (hb' : dl V' ≤ 1099511627776) :
    Calls Tryz.prog 205 #[.slice a n cap, .slice a' n' cap'] w fun e w' => e = .returned (.bool (decide (V < V'))) ∧ Ext w w' := by
 have hn := h.len
 have hn' := h'.len
 have hnb : n ≤ 1099511627776 := by omega
 have hnb' : n' ≤ 1099511627776 := by omega
 by_cases hlen : n = n'
 · subst hlen
   have hl : (dig B32 V).length = n := hn.symm
   have hl' : (dig B32 V').length = n := hn'.symm
   have hs : Sl w a n cap (ints .u64 (dig B32 V)) := h
   have hs' : Sl w a' n cap' (ints .u64 (dig B32 V')) := h'
   have hv := val_dig B32_two V
   have hv' := val_dig B32_two V'
   have hW : Ws (dig B32 V) := Ws.dig _
   have hW' : Ws (dig B32 V') := Ws.dig _
   generalize dig B32 V = X at *
   generalize dig B32 V' = Y at *
   generalize hbz : decide (V < V') = bz
   have HBZ := hidP hbz
   have HL := hidP hl; have HL' := hidP hl'; have HV := hidP hv; have HV' := hidP hv'
   clear h h' hn hn' hl hl' hv hv' hbz
   go_enter Tryz.func205, Tryz.ntmps205
   go_wp2
   go_loopw [5] (fun iv wr => ∃ k : Nat, k ≤ n ∧ iv = .int .i64 ((k : Int) - 1) ∧ (∀ j, k ≤ j → X.getD j 0 = Y.getD j 0) ∧ Ext w wr) (fun iv _ => (intOf iv + 1).toNat)
   case atStart => exact ⟨n, by omega, by go_num, (fun j hj => by rw [List.getD_eq_getElem?_getD, List.getD_eq_getElem?_getD, List.getElem?_eq_none (by have := HL.out; omega), List.getElem?_eq_none (by have := HL'.out; omega)]), Ext.refl _⟩
   obtain ⟨k, hk, rfl, hall, he⟩ := hrel
   have HALL := hidP hall; clear hall
   by_cases h0 : 0 < k
   · obtain ⟨i, rfl⟩ : ∃ i, k = i + 1 := ⟨k - 1, by omega⟩
     have e1 : ((i + 1 : Nat) : Int) - 1 = (i : Int) := by omega
     rw [e1]
     clear e1
     obtain ⟨b, off, rfl, hc⟩ := (hs.ext he).at_int (by omega)
     obtain ⟨b', off', rfl, hc'⟩ := (hs'.ext he).at_int (by omega)
     have hck := hc i (by have := HL.out; omega)
     have hck' := hc' i (by have := HL'.out; omega)
     have HX : Hid (X.getD i 0 = X[i]'(by have := HL.out; omega)) := hidP (by rw [List.getD_eq_getElem?_getD, List.getElem?_eq_getElem (by have := HL.out; omega)]; rfl)
     have HY : Hid (Y.getD i 0 = Y[i]'(by have := HL'.out; omega)) := hidP (by rw [List.getD_eq_getElem?_getD, List.getElem?_eq_getElem (by have := HL'.out; omega)]; rfl)
     clear hc hc'
     generalize X[i]'(by have := HL.out; omega) = p at *
     generalize Y[i]'(by have := HL'.out; omega) = q at *
     by_cases hpq : p = q
     · subst hpq
       go_wp2
       go_quiet (fail)
       go_wp2
       go_roundw
       case rel =>
        refine ⟨i, by omega, by go_num, fun j hj => ?_, he.drewN _⟩
        by_cases hji : j = i
        · subst hji; rw [HX.out, HY.out]
        exact HALL.out j (by omega)
       case measure => simp only [intOf]; omega
     have hpz : ((p : Int) == (q : Int)) = false := by simpa using (by omega : ¬ (p : Int) = q)
     have HR : Hid (decide ((p : Int) < (q : Int)) = bz) := hidP (by
      rw [← HBZ.out, ← HV.out, ← HV'.out]
      rcases Nat.lt_or_gt_of_ne hpq with h | h
      · rw [decide_eq_true (by omega), decide_eq_true (val_lt_of (by decide) i X Y hW (by rw [HX.out, HY.out]; exact h) (fun j hj => HALL.out j hj))]
      rw [decide_eq_false (by omega), decide_eq_false (by have := val_lt_of (B := B32) (by decide) i Y X hW' (by rw [HX.out, HY.out]; exact h) (fun j hj => (HALL.out j hj).symm); omega)])
     have hpi : ¬ (p : Int) = (q : Int) := by omega
     go_wp2
     go_quiet (fail)
     go_wp2
     go_quiet (fail)
     go_wp2
     go_ret
     exact ⟨by rw [← HR.out]; simp, (he.drewN _).drewN _⟩
   obtain rfl : k = 0 := by omega
   have HR : Hid (bz = false) := hidP (by
    rw [← HBZ.out, ← HV.out, ← HV'.out]
    refine decide_eq_false ?_
    rw [val_eq_of B32 n X Y (by have := HL.out; omega) (by have := HL'.out; omega) (fun j => HALL.out j (by omega))]
    omega)
   go_wp2
   go_ret
   exact ⟨by rw [HR.out]; rfl, he⟩
 have HR : Hid (decide ((n : Int) < (n' : Int)) = decide (V < V')) := hidP (by
  rcases Nat.lt_or_gt_of_ne hlen with h1 | h1
  · rw [decide_eq_true (by omega), decide_eq_true (lt_by_len (by omega))]
  rw [decide_eq_false (by omega), decide_eq_false (by have := lt_by_len (a := V') (b := V) (by omega); omega)])
 have hne : ((n : Int) == (n' : Int)) = false := by simpa using (by omega : ¬ (n : Int) = n')
 have hni : ¬ (n : Int) = (n' : Int) := by omega
 generalize decide (V < V') = bz at *
 clear h h' hn hn'
 go_enter Tryz.func205, Tryz.ntmps205
 go_wp2
 go_ret
 exact ⟨by rw [← HR.out]; simp, Ext.refl _⟩
end Go.Proofs.YtgjjalnmigdjgaaGreat
namespace Go.Proofs.YtgjjalnmigdjgaaGreat
set_option linter.unusedVariables false
open Go Go.RowKit
set_option maxRecDepth 100000 in
set_option maxHeartbeats 2000000 in
theorem q_less {a a' : Option Addr} {n cap n' cap' V V' : Nat} {w : World} (h : Qc w a n cap V) (h' : Qc w a' n' cap' V') (hb : dl V ≤ 1099511627776) (hge : V' ≤ V) :
    Calls Tryz.prog 206 #[.slice a n cap, .slice a' n' cap'] w (RetQ w (V - V')) := by
 have hn := h.len
 have hn' := h'.len
 have hnn := dl_mono hge
 have hnb : n ≤ 1099511627776 := by omega
 have hnb' : n' ≤ n := by omega
 have hl : (dig B32 V).length = n := hn.symm
 have hl' : (dig B32 V').length = n' := hn'.symm
 have hs : Sl w a n cap (ints .u64 (dig B32 V)) := h
 have hs' : Sl w a' n' cap' (ints .u64 (dig B32 V')) := h'
 have hv := val_dig B32_two V
 have hv' := val_dig B32_two V'
 have hW : Ws (dig B32 V) := Ws.dig _
 have hW' : Ws (dig B32 V') := Ws.dig _
 generalize dig B32 V = X at *
 generalize dig B32 V' = Y at *
 have HL := hidP hl; have HL' := hidP hl'; have HV0 := hidP hv; have HV0' := hidP hv'; have HGE := hidP hge
 clear h h' hn hn' hl hl' hv hv' hge hnn
 go_enter Tryz.func206, Tryz.ntmps206
 go_wp2
 go_loopw [5, 6, 7] (fun v cv iv wr => ∃ (k cc : Nat) (D : List Nat), k ≤ n ∧ iv = .int .i64 k ∧ cv = .int .u64 (cc : Nat) ∧ cc ≤ 1 ∧ wr.ownsRow w.heap.size 143 1 v k (ints .u64 D) ∧ Ext w wr ∧ D.length = k ∧ Ws D ∧ val B32 D + val B32 (Y.take k) = val B32 (X.take k) + B32 ^ k * cc) (fun _ _ iv _ => n - (intOf iv).toNat)
 case atStart => exact ⟨0, 0, [], by omega, rfl, rfl, by omega, World.ownsRow_nil _ _ _ _, Ext.refl _, rfl, by simp [Ws], by simp [val]⟩
 obtain ⟨k, cc, D, hk, rfl, rfl, hcc, hown, he, hDl, hD, hv⟩ := hrel
 have HV := hidP hv; have HDL := hidP hDl; clear hv hDl
 by_cases h0 : k < n
 · obtain ⟨b, off, rfl, hc⟩ := (hs.ext he).at_int (by omega)
   have hck := hc k (by have := HL.out; omega)
   have hp1 := hW.at k (by have := HL.out; omega)
   have HX : Hid (X.getD k 0 = X[k]'(by have := HL.out; omega)) := hidP (by rw [List.getD_eq_getElem?_getD, List.getElem?_eq_getElem (by have := HL.out; omega)]; rfl)
   clear hc
   generalize X[k]'(by have := HL.out; omega) = p at *
   obtain ⟨v1, hv1⟩ : ∃ v1, v1 = 4294967296 + p - cc := ⟨_, rfl⟩
   have hv1i : (4294967296 : Int) + (p : Int) - (cc : Int) = (v1 : Int) := by omega
   have hv1b : v1 ≤ 8589934591 := by omega
   have hv1c : 4294967295 ≤ v1 := by omega
   by_cases h1 : k < n'
   · obtain ⟨b', off', rfl, hc'⟩ := (hs'.ext he).at_int (by omega)
     have hck' := hc' k (by have := HL'.out; omega)
     have hq1 := hW'.at k (by have := HL'.out; omega)
     have HY : Hid (Y.getD k 0 = Y[k]'(by have := HL'.out; omega)) := hidP (by rw [List.getD_eq_getElem?_getD, List.getElem?_eq_getElem (by have := HL'.out; omega)]; rfl)
     clear hc'
     generalize Y[k]'(by have := HL'.out; omega) = q at *
     obtain ⟨v, hv⟩ : ∃ v, v = 4294967296 + p - q - cc := ⟨_, rfl⟩
     have hvi : (v1 : Int) - (q : Int) = (v : Int) := by omega
     have hvb : v < 8589934592 := by omega
     have HSS := hidP (sub_step (B := B32) (P := B32 ^ k) (x := p) (y := q) (by decide) hcc (by unfold B32; omega) HV.out)
     have HNO : Hid (¬ B32 + p < q + cc ∧ ¬ 2 * B32 ≤ B32 + p - q - cc) := hidP (by unfold B32; omega)
     have HVE : Hid (B32 + p - q - cc = v) := hidP hv.symm
     have hdi : (v : Int) % 4294967296 = ((v % 4294967296 : Nat) : Int) := by omega
     have hci : (1 : Int) - (v : Int) / 4294967296 = ((1 - v / 4294967296 : Nat) : Int) := by omega
     have hdb : v % 4294967296 < 4294967296 := Nat.mod_lt _ (by decide)
     have hcb : 1 - v / 4294967296 ≤ 1 := by omega
     have HDC : Hid (v % B32 = v % 4294967296 ∧ v / B32 = v / 4294967296) := hidP ⟨rfl, rfl⟩
     generalize v % 4294967296 = d at *
     generalize hc2 : 1 - v / 4294967296 = c2 at *
     have HC2 := hidP hc2; clear hc2
     clear hv hv1
     go_wp2_with (at_builtin; refine wpList_app1 T_u64' rfl _ _ rfl hown he _ rfl rfl rfl (by omega) (by omega) ?_; intro v' w' hown' he')
     go_roundw
     case rel =>
      refine ⟨k + 1, c2, D ++ [d], by omega, by go_num, rfl, hcb, by rw [ints_append]; exact hown', he', by have := HDL.out; simp; omega, ?_, ?_⟩
      · intro y hy
        rcases List.mem_append.1 hy with hy | hy
        · exact hD y hy
        simp at hy; subst hy; exact hdb
      have h := HSS.out
      rw [HVE.out, HDC.out.1, HDC.out.2, HC2.out] at h
      rcases h with h | h | h
      · rw [val_take_snoc, val_take_snoc, HX.out, HY.out, val_snoc, HDL.out, Nat.pow_succ]
        exact h
      · exact absurd h HNO.out.1
      exact absurd h (by have := HNO.out.2; rwa [HVE.out] at this)
     case measure => simp only [intOf]; omega
   have HY : Hid (Y.getD k 0 = 0) := hidP (by rw [List.getD_eq_getElem?_getD, List.getElem?_eq_none (by have := HL'.out; omega)]; rfl)
   obtain ⟨q, hq⟩ : ∃ q, q = 0 := ⟨_, rfl⟩
   replace HY : Hid (Y.getD k 0 = q) := hidP (by rw [hq]; exact HY.out)
   have hq1 : q < 4294967296 := by omega
   obtain ⟨v, hv⟩ : ∃ v, v = 4294967296 + p - q - cc := ⟨_, rfl⟩
   obtain rfl : v = v1 := by omega
   have hvb : v < 8589934592 := by omega
   have HSS := hidP (sub_step (B := B32) (P := B32 ^ k) (x := p) (y := q) (by decide) hcc (by unfold B32; omega) HV.out)
   have HNO : Hid (¬ B32 + p < q + cc ∧ ¬ 2 * B32 ≤ B32 + p - q - cc) := hidP (by unfold B32; omega)
   have HVE : Hid (B32 + p - q - cc = v) := hidP hv.symm
   have hdi : (v : Int) % 4294967296 = ((v % 4294967296 : Nat) : Int) := by omega
   have hci : (1 : Int) - (v : Int) / 4294967296 = ((1 - v / 4294967296 : Nat) : Int) := by omega
   have hdb : v % 4294967296 < 4294967296 := Nat.mod_lt _ (by decide)
   have hcb : 1 - v / 4294967296 ≤ 1 := by omega
   have HDC : Hid (v % B32 = v % 4294967296 ∧ v / B32 = v / 4294967296) := hidP ⟨rfl, rfl⟩
   generalize v % 4294967296 = d at *
   generalize hc2 : 1 - v / 4294967296 = c2 at *
   have HC2 := hidP hc2; clear hc2
   clear hv hv1 hq
   go_wp2_with (at_builtin; refine wpList_app1 T_u64' rfl _ _ rfl hown he _ rfl rfl rfl (by omega) (by omega) ?_; intro v' w' hown' he')
   go_roundw
   case rel =>
    refine ⟨k + 1, c2, D ++ [d], by omega, by go_num, rfl, hcb, by rw [ints_append]; exact hown', he', by have := HDL.out; simp; omega, ?_, ?_⟩
    · intro y hy
      rcases List.mem_append.1 hy with hy | hy
      · exact hD y hy
      simp at hy; subst hy; exact hdb
    have h := HSS.out
    rw [HVE.out, HDC.out.1, HDC.out.2, HC2.out] at h
    rcases h with h | h | h
    · rw [val_take_snoc, val_take_snoc, HX.out, HY.out, val_snoc, HDL.out, Nat.pow_succ]
      exact h
    · exact absurd h HNO.out.1
    exact absurd h (by have := HNO.out.2; rwa [HVE.out] at this)
   case measure => simp only [intOf]; omega
 obtain rfl : k = n := by omega
 obtain ⟨a5, cap5, rfl, hsl⟩ := Sl.of_owns hown
 have HVD : Hid (val B32 D = V - V') := hidP (by
  have h9 := HV.out
  rw [List.take_of_length_le (by have := HL'.out; omega), List.take_of_length_le (by have := HL.out; omega), HV0.out, HV0'.out] at h9
  have h8 := val_lt (B := B32) (by decide) D hD
  rw [HDL.out] at h8
  have h7 := HGE.out
  match cc, hcc with
  | 0, _ => simp only [Nat.mul_zero, Nat.add_zero] at h9; omega
  | 1, _ => simp only [Nat.mul_one] at h9; omega)
 have HFIN : Hid (∀ aa kk, Sl wr aa kk cap5 (ints .u64 (dig B32 (val B32 D))) → RetQ w (V - V') (.returned (.slice aa kk cap5)) wr) := hidP (fun aa kk hh => ⟨_, _, _, rfl, by rw [← HVD.out]; exact hh, he⟩)
 have HSL := hidP hsl; have HDW := hidP hD
 have hcap5 := hsl.2.1
 have hcm5 := hsl.2.2.1
 unfold maxLen at hcm5
 clear hsl hown hD HV hs hs' HL HL' HGE HV0 HV0'
 generalize RetQ w (V - V') = RR at *
 generalize k = n0 at *
 go_wp2
 go_loop [5] (fun v => ∃ k : Nat, k ≤ n0 ∧ v = .slice a5 k cap5 ∧ val B32 (D.take k) = val B32 D) (fun v => sliceLen v)
 case atStart => exact ⟨n0, by omega, rfl, by rw [List.take_of_length_le (by have := HDL.out; omega)]⟩
 obtain ⟨k, hk, rfl, hv⟩ := hrel
 have HV := hidP hv; clear hv
 by_cases h0 : 0 < k
 · obtain ⟨i, rfl⟩ : ∃ i, k = i + 1 := ⟨k - 1, by omega⟩
   obtain ⟨b5, off5, rfl, hc⟩ := HSL.out.at_int (by omega)
   have hck := hc i (by have := HDL.out; omega)
   clear hc
   have hi : i < D.length := by have := HDL.out; omega
   by_cases hz : D[i] = 0
   · have HZ : Hid (val B32 (D.take i) = val B32 D) := hidP (by rw [← HV.out, ← val_take_of_zero B32 D i hi hz])
     rw [hz] at hck
     clear hz hi
     go_wp2
     go_round
     case rel => exact ⟨i, by omega, by go_num, HZ.out⟩
     case measure => simp [sliceLen]
   have HFN := hidP (HFIN.out (some ⟨b5, off5, none⟩) (i + 1) (by
    have h1 := HSL.out.take (i + 1) (by omega)
    rw [ints_take, take_dig B32_two D HDW.out (i + 1) (by omega) (.inr ⟨by simpa using hi, by simpa using hz⟩) HV.out] at h1
    exact h1))
   generalize D[i] = dd at *
   have hdz : ((dd : Int) == 0) = false := by simpa using hz
   clear hi
   go_wp2
   first | exact HFN.out | (go_ret; exact HFN.out)
 obtain rfl : k = 0 := by omega
 have HFN := hidP (HFIN.out a5 0 (by
  have h1 := HSL.out.take 0 (by omega)
  have h2 := HV.out
  simp only [List.take_zero, val] at h2
  rw [← h2, dig_zero]
  simpa [ints] using h1))
 go_wp2
 first | exact HFN.out | (go_ret; exact HFN.out)
end Go.Proofs.YtgjjalnmigdjgaaGreat
namespace Go.Proofs.YtgjjalnmigdjgaaGreat
set_option linter.unusedVariables false
open Go Go.RowKit
theorem Qc.uniq {w : World} {a : Option Addr} {n cap V V' : Nat} (h : Qc w a n cap V) (h' : Qc w a n cap V') : V = V' := by
  have hl : (dig B32 V).length = (dig B32 V').length := by rw [Sl.int_len h, Sl.int_len h']
  have e : dig B32 V = dig B32 V' := by
    refine List.ext_getElem hl fun i hi hi' => ?_
    have h0 : 0 < n := by have := Sl.int_len h; omega
    obtain ⟨b, off, ha, hc⟩ := Sl.at_int h h0
    obtain ⟨b', off', ha', hc'⟩ := Sl.at_int h' h0
    rw [ha] at ha'
    simp only [Option.some.injEq, Addr.mk.injEq, and_true] at ha'
    obtain ⟨rfl, rfl⟩ := ha'
    have h1 := hc i hi
    rw [hc' i hi'] at h1
    simp at h1
    omega
  exact dig_inj.1 e
open Classical in
noncomputable def rdq (w : World) (v : Value) : Nat := if h : ∃ V a n c, v = .slice a n c ∧ Qc w a n c V then Classical.choose h else 0
theorem rdq_eq {w : World} {a : Option Addr} {n c V : Nat} (h : Qc w a n c V) : rdq w (.slice a n c) = V := by
  have he : ∃ V a' n' c', Value.slice a n c = .slice a' n' c' ∧ Qc w a' n' c' V := ⟨V, a, n, c, rfl, h⟩
  unfold rdq
  rw [dif_pos he]
  obtain ⟨a', n', c', e, h2⟩ := Classical.choose_spec he
  cases e
  exact h2.uniq h
/-- A number's lowest word. -/
theorem Qc.low {w : World} {a : Option Addr} {n cap V : Nat} (h : Qc w a n cap V) (h0 : V ≠ 0) : 0 < n ∧ ∃ b off, a = some ⟨b, off, none⟩ ∧ w.cell? ⟨b, off, none⟩ = some (.int .u64 ((V % 4294967296 : Nat) : Int)) := by
  have hn : 0 < n := by
    rw [h.len]
    rcases Nat.eq_zero_or_pos (dl V) with h1 | h1
    · exact absurd (dl_eq_zero.1 h1) h0
    · exact h1
  obtain ⟨b, off, ha, hc⟩ := Sl.at_int h hn
  refine ⟨hn, b, off, ha, ?_⟩
  have hp := dig_pos B32_two h0
  have h1 := hc 0 (by rw [hp]; simp)
  have h2 : (dig B32 V)[0]'(by rw [hp]; simp) = V % B32 := by simp [hp]
  rw [h2] at h1
  exact h1
theorem gcd_both {x y : Nat} (hx : x % 2 = 0) (hy : y % 2 = 0) : Nat.gcd x y = 2 * Nat.gcd (x / 2) (y / 2) := by
  have e1 : x = 2 * (x / 2) := by omega
  have e2 : y = 2 * (y / 2) := by omega
  calc Nat.gcd x y = Nat.gcd (2 * (x / 2)) (2 * (y / 2)) := by rw [← e1, ← e2]
    _ = 2 * Nat.gcd (x / 2) (y / 2) := Nat.gcd_mul_left 2 _ _
theorem gcd_left {x y : Nat} (hx : x % 2 = 0) (ho : Nat.gcd x y % 2 = 1) : Nat.gcd (x / 2) y = Nat.gcd x y := by
  have e1 : x = 2 * (x / 2) := by omega
  refine Nat.dvd_antisymm ?_ ?_
  · refine Nat.dvd_gcd (Nat.dvd_trans (Nat.gcd_dvd_left _ _) ?_) (Nat.gcd_dvd_right _ _)
    exact ⟨2, by omega⟩
  · refine Nat.dvd_gcd ?_ (Nat.gcd_dvd_right _ _)
    have hd := Nat.gcd_dvd_left x y
    have hc : Nat.Coprime (Nat.gcd x y) 2 := by
      have : Nat.gcd (Nat.gcd x y) 2 ∣ 2 := Nat.gcd_dvd_right _ _
      have h2 : Nat.gcd (Nat.gcd x y) 2 ∣ Nat.gcd x y := Nat.gcd_dvd_left _ _
      have h3 : Nat.gcd (Nat.gcd x y) 2 ≤ 2 := Nat.le_of_dvd (by omega) this
      have h4 : Nat.gcd (Nat.gcd x y) 2 ≠ 2 := fun h => by
        rw [h] at h2
        obtain ⟨k, hk⟩ := h2
        omega
      have h5 : Nat.gcd (Nat.gcd x y) 2 ≠ 0 := fun h => by rw [h] at this; obtain ⟨k, hk⟩ := this; omega
      show Nat.gcd (Nat.gcd x y) 2 = 1
      omega
    exact hc.dvd_of_dvd_mul_left (by rw [← e1]; exact hd)
theorem gcd_odd {x y : Nat} (h : ¬ (x % 2 = 0 ∧ y % 2 = 0)) : Nat.gcd x y % 2 = 1 := by
  rcases Nat.mod_two_eq_zero_or_one (Nat.gcd x y) with h0 | h1
  · exfalso
    refine h ⟨?_, ?_⟩
    · have := Nat.gcd_dvd_left x y
      exact Nat.mod_eq_zero_of_dvd (Nat.dvd_trans (Nat.dvd_of_mod_eq_zero h0) this)
    · have := Nat.gcd_dvd_right x y
      exact Nat.mod_eq_zero_of_dvd (Nat.dvd_trans (Nat.dvd_of_mod_eq_zero h0) this)
  · exact h1
set_option maxRecDepth 100000 in
set_option maxHeartbeats 4000000 in
theorem q_Gcd {a a' : Option Addr} {n cap n' cap' A B : Nat} {w : World} (h : Nu w a n cap A) (h' : Nu w a' n' cap' B) :
    Calls Tryz.prog 176 #[.slice a n cap, .slice a' n' cap'] w (RetN w (Nat.gcd A B)) := by
 have dA : dl A ≤ 1099511627776 := by have := h.dl; have := h.2; omega
 have dB : dl B ≤ 1099511627776 := by have := h'.dl; have := h'.2; omega
 have H := hidP h; have H' := hidP h'; have DA := hidP dA; have DB := hidP dB
 clear h h' dA dB
 go_enter Tryz.func176, Tryz.ntmps176
 go_wp2_with fail
 refine (d_Half H.out).mono ?_
 rintro e u1 ⟨a1, n1, c1, rfl, hs1, hn1, HE⟩
 go_wp2_with fail
 refine (d_Words hs1 hn1).mono ?_
 rintro e u2 ⟨a2, n2, c2, rfl, hs2, he⟩
 replace HE := HE.trans he
 clear he hs1 hn1
 go_wp2_with fail
 refine (q_copied hs2 DA.out).mono ?_
 rintro e u3 ⟨a3, n3, c3, rfl, hs3, he⟩
 replace HE := HE.trans he
 clear he hs2
 go_wp2_with fail
 refine (d_Half (H'.out.ext HE)).mono ?_
 rintro e u4 ⟨a4, n4, c4, rfl, hs4, hn4, he⟩
 replace hs3 := hs3.ext he
 replace HE := HE.trans he
 clear he
 go_wp2_with fail
 refine (d_Words hs4 hn4).mono ?_
 rintro e u5 ⟨a5, n5, c5, rfl, hs5, he⟩
 replace hs3 := hs3.ext he
 replace HE := HE.trans he
 clear he hs4 hn4
 go_wp2_with fail
 refine (q_copied hs5 DB.out).mono ?_
 rintro e u6 ⟨a6, n6, c6, rfl, hs6, he⟩
 replace hs3 := hs3.ext he
 replace HE := HE.trans he
 clear he hs5
 by_cases hA0 : A = 0
 · have HA0 := hidP hA0
   have HG : Hid (A + B = Nat.gcd A B) := hidP (by rw [hA0, Nat.gcd_zero_left, Nat.zero_add])
   clear hA0
   go_wp2_with fail
   refine (q_zero hs3 DA.out).mono ?_
   rw [decide_eq_true HA0.out]
   rintro e u ⟨rfl, rfl⟩
   go_wp2_with fail
   refine (d_Add (H.out.ext HE) (H'.out.ext HE)).mono ?_
   rw [HG.out]
   rintro e u7 ⟨a7, n7, c7, rfl, hs7, he⟩
   go_wp2_with fail
   go_ret
   exact ⟨_, _, _, rfl, hs7, HE.trans he⟩
 by_cases hB0 : B = 0
 · have HA0 := hidP hA0; have HB0 := hidP hB0
   have HG : Hid (A + B = Nat.gcd A B) := hidP (by rw [hB0, Nat.gcd_zero_right, Nat.add_zero])
   clear hA0 hB0
   go_wp2_with fail
   refine (q_zero hs3 DA.out).mono ?_
   rw [decide_eq_false HA0.out]
   rintro e u ⟨rfl, rfl⟩
   go_wp2_with fail
   refine (q_zero hs6 DB.out).mono ?_
   rw [decide_eq_true HB0.out]
   rintro e u ⟨rfl, rfl⟩
   go_wp2_with fail
   refine (d_Add (H.out.ext HE) (H'.out.ext HE)).mono ?_
   rw [HG.out]
   rintro e u7 ⟨a7, n7, c7, rfl, hs7, he⟩
   go_wp2_with fail
   go_ret
   exact ⟨_, _, _, rfl, hs7, HE.trans he⟩
 have HA0 := hidP hA0; have HB0 := hidP hB0
 clear hA0 hB0
 go_wp2_with fail
 refine (q_zero hs3 DA.out).mono ?_
 rw [decide_eq_false HA0.out]
 rintro e u ⟨rfl, rfl⟩
 go_wp2_with fail
 refine (q_zero hs6 DB.out).mono ?_
 rw [decide_eq_false HB0.out]
 rintro e u ⟨rfl, rfl⟩
 go_upto_block 0 with fail
 go_cut [5, 6, 7] (fun xv yv tv wx => ∃ (X Y t : Nat) (ax ay : Option Addr) (nx cx ny cy : Nat), xv = .slice ax nx cx ∧ yv = .slice ay ny cy ∧ tv = .int .i64 (t : Int) ∧ Qc wx ax nx cx X ∧ Qc wx ay ny cy Y ∧ X ≠ 0 ∧ Y ≠ 0 ∧ X ≤ A ∧ Y ≤ B ∧ 2 ^ t ≤ A ∧ 2 ^ t * Nat.gcd X Y = Nat.gcd A B ∧ Nat.gcd X Y % 2 = 1 ∧ Ext w wx)
 case first =>
  go_wp2
  go_loopw [5, 6, 7] (fun xv yv tv wr => ∃ (X Y t : Nat) (ax ay : Option Addr) (nx cx ny cy : Nat), xv = .slice ax nx cx ∧ yv = .slice ay ny cy ∧ tv = .int .i64 (t : Int) ∧ Qc wr ax nx cx X ∧ Qc wr ay ny cy Y ∧ X ≠ 0 ∧ Y ≠ 0 ∧ X * 2 ^ t ≤ A ∧ Y ≤ B ∧ 2 ^ t * Nat.gcd X Y = Nat.gcd A B ∧ Ext w wr) (fun xv _ _ wr => rdq wr xv)
  case atStart => exact ⟨A, B, 0, a3, a6, n3, c3, n6, c6, rfl, rfl, rfl, hs3, hs6, HA0.out, HB0.out, by omega, Nat.le_refl _, by simp, HE⟩
  clear hs3 hs6 HE
  obtain ⟨X, Y, t, ax, ay, nx, cx, ny, cy, rfl, rfl, rfl, hx, hy, hX0, hY0, hXA, hYB, hg, he⟩ := hrel
  obtain ⟨hnx, bx, ox, rfl, hcx⟩ := hx.low hX0
  obtain ⟨hny, by_, oy, rfl, hcy⟩ := hy.low hY0
  have HT : Hid (2 ^ t ≤ A) := hidP (Nat.le_trans (Nat.le_mul_of_pos_left _ (Nat.pos_of_ne_zero hX0)) hXA)
  have htb : t ≤ 35184372088832 := by
   have h1 := Nat.lt_of_le_of_lt HT.out (dl_lt A)
   have h2 : B32 ^ dl A = 2 ^ (32 * dl A) := by rw [Nat.pow_mul]; rfl
   rw [h2] at h1
   have h3 := (Nat.pow_lt_pow_iff_right (by decide : 1 < 2)).1 h1
   have := DA.out
   omega
  have HXA := hidP hXA; have HYB := hidP hYB; have HGG := hidP hg; have HX := hidP hx; have HY := hidP hy
  have HX0 := hidP hX0; have HY0 := hidP hY0
  have HDX : Hid (dl X ≤ 1099511627776) := hidP (Nat.le_trans (dl_mono (Nat.le_trans (Nat.le_mul_of_pos_right _ (Nat.two_pow_pos t)) hXA)) DA.out)
  have HDY : Hid (dl Y ≤ 1099511627776) := hidP (Nat.le_trans (dl_mono hYB) DB.out)
  have HRD : Hid (rdq wr (.slice (some ⟨bx, ox, none⟩) nx cx) = X) := hidP (rdq_eq hx)
  have hlx : ((X % 4294967296 : Nat) : Int) % 2 = ((X % 2 : Nat) : Int) := by omega
  have hly : ((Y % 4294967296 : Nat) : Int) % 2 = ((Y % 2 : Nat) : Int) := by omega
  have HPX := hidP (rfl : X % 2 = X % 2); have HPY := hidP (rfl : Y % 2 = Y % 2)
  have hxb : X % 4294967296 < 4294967296 := Nat.mod_lt _ (by decide)
  have hyb : Y % 4294967296 < 4294967296 := Nat.mod_lt _ (by decide)
  have HEV : Hid (X % 2 = 0 ∧ Y % 2 = 0 ∨ ¬ (X % 2 = 0 ∧ Y % 2 = 0)) := hidP (Decidable.em _)
  generalize X % 4294967296 = x0 at *
  generalize Y % 4294967296 = y0 at *
  have h01x : X % 2 = 0 ∨ X % 2 = 1 := Nat.mod_two_eq_zero_or_one X
  have h01y : Y % 2 = 0 ∨ Y % 2 = 1 := Nat.mod_two_eq_zero_or_one Y
  clear HPX HPY hx hy hX0 hY0 hXA hYB hg HEV
  have HEND : Hid (¬ (X % 2 = 0 ∧ Y % 2 = 0) → ∃ (X' Y' t' : Nat) (ax ay : Option Addr) (nx' cx' ny' cy' : Nat), Value.slice (some ⟨bx, ox, none⟩) nx cx = .slice ax nx' cx' ∧ Value.slice (some ⟨by_, oy, none⟩) ny cy = .slice ay ny' cy' ∧ Value.int .i64 (t : Int) = .int .i64 (t' : Int) ∧ Qc wr ax nx' cx' X' ∧ Qc wr ay ny' cy' Y' ∧ X' ≠ 0 ∧ Y' ≠ 0 ∧ X' ≤ A ∧ Y' ≤ B ∧ 2 ^ t' ≤ A ∧ 2 ^ t' * Nat.gcd X' Y' = Nat.gcd A B ∧ Nat.gcd X' Y' % 2 = 1 ∧ Ext w wr) := hidP (fun hh =>
   ⟨X, Y, t, _, _, _, _, _, _, rfl, rfl, rfl, HX.out, HY.out, HX0.out, HY0.out, Nat.le_trans (Nat.le_mul_of_pos_right _ (Nat.two_pow_pos t)) HXA.out, HYB.out, HT.out, HGG.out, gcd_odd hh, he⟩)
  rcases h01x with hx1 | hx1
  · rcases h01y with hy1 | hy1
    · have HXE := hidP hx1; have HYE := hidP hy1
      rw [hx1] at hlx
      rw [hy1] at hly
      clear hx1 hy1 HEND
      go_wp2_with fail
      refine (q_halved HX.out HDX.out).mono ?_
      rintro e u7 ⟨a7, n7, c7, rfl, hs7, he7⟩
      go_wp2_with fail
      refine (q_halved (HY.out.ext he7) HDY.out).mono ?_
      rintro e u8 ⟨a8, n8, c8, rfl, hs8, he8⟩
      replace hs7 := hs7.ext he8
      have HS7 := hidP hs7; have HS8 := hidP hs8
      have HHE := hidP (he.trans (he7.trans he8))
      clear hs7 hs8 he7 he8 hcx hcy
      go_wp2_with fail
      go_roundw
      case rel =>
       refine ⟨X / 2, Y / 2, t + 1, a7, a8, n7, c7, n8, c8, rfl, rfl, by go_num, HS7.out, HS8.out, by have := HX0.out; have := HXE.out; omega, by have := HY0.out; have := HYE.out; omega, ?_, by have := HYB.out; omega, ?_, HHE.out⟩
       · have h1 : X / 2 * 2 ^ (t + 1) = X * 2 ^ t := by
          rw [Nat.pow_succ, Nat.mul_comm (2 ^ t) 2, ← Nat.mul_assoc]
          congr 1
          have := HXE.out
          omega
         rw [h1]; exact HXA.out
       rw [← HGG.out, gcd_both HXE.out HYE.out, Nat.pow_succ, Nat.mul_assoc]
      case measure =>
       rw [HRD.out, rdq_eq HS7.out]
       have := HX0.out
       omega
    have HEN := hidP (HEND.out (by omega))
    rw [hx1] at hlx
    rw [hy1] at hly
    clear hx1 hy1 HEND
    go_wp2
    go_meet
    exact HEN.out
  have HEN := hidP (HEND.out (by omega))
  rw [hx1] at hlx
  clear hx1 HEND h01y
  go_wp2
  go_meet
  exact HEN.out
 clear hs3 hs6 HE
 obtain ⟨X, Y, t, ax, ay, nx, cx, ny, cy, rfl, rfl, rfl, hx, hy, hX0, hY0, hXA, hYB, hT, hg, hodd, he⟩ := hcut
 have htb : t ≤ 35184372088832 := by
  have h1 := Nat.lt_of_le_of_lt hT (dl_lt A)
  have h2 : B32 ^ dl A = 2 ^ (32 * dl A) := by rw [Nat.pow_mul]; rfl
  rw [h2] at h1
  have h3 := (Nat.pow_lt_pow_iff_right (by decide : 1 < 2)).1 h1
  have := DA.out
  omega
 obtain ⟨g, hgd⟩ : ∃ g, g = Nat.gcd X Y := ⟨_, rfl⟩
 rw [← hgd] at hg hodd
 have HG := hidP hg; have HODD := hidP hodd; have HT := hidP hT; have HGD := hidP hgd
 have HX := hidP hx; have HY := hidP hy; have HY0 := hidP hY0; have HXA := hidP hXA; have HYB := hidP hYB
 clear hg hodd hT hgd hx hy hX0 hY0 hXA hYB
 go_wp2_with fail
 go_loopw [5, 6] (fun xv yv wr => ∃ (P Q : Nat) (ap aq : Option Addr) (np cp nq cq : Nat), xv = .slice ap np cp ∧ yv = .slice aq nq cq ∧ Qc wr ap np cp P ∧ Qc wr aq nq cq Q ∧ Q ≠ 0 ∧ P ≤ A ∧ Q ≤ B ∧ Nat.gcd P Q = g ∧ Ext w wr) (fun xv yv wr => rdq wr xv + rdq wr yv)
 case atStart => exact ⟨X, Y, ax, ay, nx, cx, ny, cy, rfl, rfl, HX.out, HY.out, HY0.out, HXA.out, HYB.out, HGD.out.symm, he⟩
 clear HX HY HY0 HXA HYB HGD he
 obtain ⟨P, Q, ap, aq, np, cp, nq, cq, rfl, rfl, hp, hq, hQ0, hPA, hQB, hpq, he⟩ := hrel
 have HRP : Hid (rdq wr (.slice ap np cp) = P) := hidP (rdq_eq hp)
 have HRQ : Hid (rdq wr (.slice aq nq cq) = Q) := hidP (rdq_eq hq)
 have HDP : Hid (dl P ≤ 1099511627776) := hidP (Nat.le_trans (dl_mono hPA) DA.out)
 have HDQ : Hid (dl Q ≤ 1099511627776) := hidP (Nat.le_trans (dl_mono hQB) DB.out)
 have HP := hidP hp; have HQ := hidP hq; have HQ0 := hidP hQ0; have HPA := hidP hPA; have HQB := hidP hQB; have HPQ := hidP hpq; have HE := hidP he
 clear hp hq hQ0 hPA hQB hpq he
 by_cases hP0 : P = 0
 · have HP0 := hidP hP0
   have HQG : Hid (Q = g) := hidP (by rw [← HPQ.out, hP0, Nat.gcd_zero_left])
   clear hP0
   go_wp2_with fail
   refine (q_zero HP.out HDP.out).mono ?_
   rw [decide_eq_true HP0.out]
   rintro e u ⟨rfl, rfl⟩
   go_wp2_with fail
   have hqn := HQ.out.len
   have hqnb : nq ≤ 1099511627776 := by have := HDQ.out; omega
   have hqs : Sl wr aq nq cq (ints .u64 (dig B32 Q)) := HQ.out
   have hqW : Ws (dig B32 Q) := Ws.dig _
   have hql : (dig B32 Q).length = nq := hqn.symm
   have HQV := hidP (val_dig B32_two Q)
   have HNU : Hid (∀ u a n c, Sl u a n c (ints .u32 (dig B32 Q)) → Nc u a n c Q) := hidP (fun u a n c hh => hh)
   generalize dig B32 Q = Z at *
   have HQL := hidP hql
   have HQN := hidP hqn
   clear hqn hql HPQ
   obtain ⟨wo, rfl⟩ : ∃ wo : World, wo = wr := ⟨_, rfl⟩
   go_loopw [8, 9] (fun v iv w2 => ∃ k : Nat, k ≤ nq ∧ iv = .int .i64 k ∧ w2.ownsRow wo.heap.size 98 1 v k (ints .u32 (Z.take k)) ∧ Ext wo w2) (fun _ iv _ => nq - (intOf iv).toNat)
   case atStart => exact ⟨0, by omega, rfl, World.ownsRow_nil _ _ _ _, Ext.refl _⟩
   obtain ⟨k, hk, rfl, hown, he2⟩ := hrel
   by_cases h0 : k < nq
   · obtain ⟨b, off, rfl, hc⟩ := (hqs.ext he2).at_int (by omega)
     have hck := hc k (by have := HQL.out; omega)
     clear hc
     have HTK : Hid (Z.take (k + 1) = Z.take k ++ [Z[k]'(by have := HQL.out; omega)]) := hidP (List.take_succ_eq_append_getElem _)
     have hxb := hqW.at k (by have := HQL.out; omega)
     generalize Z[k]'(by have := HQL.out; omega) = p at *
     have hpm : (p : Int) % 4294967296 = (p : Int) := by omega
     go_wp2_with (at_builtin; refine wpList_app1 T_u32' rfl _ _ rfl hown he2 _ rfl rfl rfl (by omega) (by omega) ?_; intro v' w' hown' he')
     go_roundw
     case rel => exact ⟨k + 1, by omega, by go_num, by rw [HTK.out, ints_append]; exact hown', he'⟩
     case measure => simp only [intOf]; omega
   obtain rfl : k = nq := by omega
   have HTT : Hid (Z.take k = Z) := hidP (List.take_of_length_le (by have := HQL.out; omega))
   obtain ⟨a9, c9, rfl, hsl⟩ := Sl.of_owns hown
   have HN9 : Hid (Nc _ a9 k c9 Q) := hidP (HNU.out _ _ _ _ (by rw [← HTT.out]; exact hsl))
   have HEE := hidP (HE.out.trans he2)
   have HTL : Hid (dl (2 ^ t) ≤ 1099511627776) := hidP (Nat.le_trans (dl_mono HT.out) DA.out)
   clear hown hsl he2 hqs hqW
   go_wp2_with fail
   refine (d_Power t _ htb).mono ?_
   rintro e u8 ⟨a8, n8, c8, rfl, hs8, he8⟩
   have HS8 := hidP hs8; have HE8 := hidP he8
   clear hs8 he8
   go_wp2_with fail
   refine (d_Mul ((HN9.out.nu HDQ.out).ext HE8.out) (HS8.out.nu HTL.out)).mono ?_
   rw [show Q * 2 ^ t = Nat.gcd A B by rw [← HG.out, HQG.out, Nat.mul_comm]]
   rintro e u9 ⟨a10, n10, c10, rfl, hs10, he10⟩
   go_wp2_with fail
   go_ret
   exact ⟨_, _, _, rfl, hs10, HEE.out.trans (HE8.out.trans he10)⟩
 have HP0 := hidP hP0
 clear hP0
 go_wp2_with fail
 refine (q_zero HP.out HDP.out).mono ?_
 rw [decide_eq_false HP0.out]
 rintro e u ⟨rfl, rfl⟩
 go_wp2_with fail
 obtain ⟨wo, rfl⟩ : ∃ wo : World, wo = wr := ⟨_, rfl⟩
 go_loopw [5] (fun xv w2 => ∃ (P2 : Nat) (a2 : Option Addr) (n2 c2 : Nat), xv = .slice a2 n2 c2 ∧ Qc w2 a2 n2 c2 P2 ∧ P2 ≠ 0 ∧ P2 ≤ P ∧ Nat.gcd P2 Q = g ∧ Ext wo w2) (fun xv w2 => rdq w2 xv)
 case atStart => exact ⟨P, ap, np, cp, rfl, HP.out, HP0.out, Nat.le_refl _, HPQ.out, Ext.refl _⟩
 obtain ⟨P2, a2, n2, c2, rfl, hp2, hp20, hp2P, hg2, he2⟩ := hrel
 obtain ⟨hn2, b2, o2, rfl, hc2⟩ := hp2.low hp20
 have HP2 := hidP hp2; have HP20 := hidP hp20; have HP2P := hidP hp2P; have HG2 := hidP hg2; have HE2 := hidP he2
 have HR2 : Hid (rdq _ (.slice (some ⟨b2, o2, none⟩) n2 c2) = P2) := hidP (rdq_eq hp2)
 have HD2 : Hid (dl P2 ≤ 1099511627776) := hidP (Nat.le_trans (dl_mono hp2P) HDP.out)
 have hlx : ((P2 % 4294967296 : Nat) : Int) % 2 = ((P2 % 2 : Nat) : Int) := by omega
 have hxb : P2 % 4294967296 < 4294967296 := Nat.mod_lt _ (by decide)
 have h01 : P2 % 2 = 0 ∨ P2 % 2 = 1 := Nat.mod_two_eq_zero_or_one P2
 clear hp2 hp20 hp2P hg2 he2
 generalize P2 % 4294967296 = x0 at *
 rcases h01 with hx1 | hx1
 · have HXE := hidP hx1
   rw [hx1] at hlx
   clear hx1
   go_wp2_with fail
   refine (q_halved HP2.out HD2.out).mono ?_
   rintro e u7 ⟨a7, n7, c7, rfl, hs7, he7⟩
   have HS7 := hidP hs7
   have HHE := hidP (HE2.out.trans he7)
   clear hs7 he7 hc2
   go_wp2_with fail
   go_roundw
   case rel => exact ⟨P2 / 2, a7, n7, c7, rfl, HS7.out, by have := HP20.out; have := HXE.out; omega, by have := HP2P.out; omega, by rw [gcd_left HXE.out (by rw [HG2.out]; exact HODD.out)]; exact HG2.out, HHE.out⟩
   case measure =>
    rw [HR2.out, rdq_eq HS7.out]
    have := HP20.out
    omega
 have HXO := hidP hx1
 rw [hx1] at hlx
 clear hx1
 go_wp2_with fail
 obtain ⟨wi, rfl⟩ : ∃ wi : World, wi = wr := ⟨_, rfl⟩
 clear hc2 hlx hxb
 go_loopw [6] (fun yv w2 => ∃ (Q2 : Nat) (a3 : Option Addr) (n3 c3 : Nat), yv = .slice a3 n3 c3 ∧ Qc w2 a3 n3 c3 Q2 ∧ Q2 ≠ 0 ∧ Q2 ≤ Q ∧ Nat.gcd P2 Q2 = g ∧ Ext wi w2) (fun yv w2 => rdq w2 yv)
 case atStart => exact ⟨Q, aq, nq, cq, rfl, HQ.out.ext HE2.out, HQ0.out, Nat.le_refl _, HG2.out, Ext.refl _⟩
 obtain ⟨Q2, a3, n3, c3, rfl, hq2, hq20, hq2Q, hg3, he3⟩ := hrel
 obtain ⟨hn3, b3, o3, rfl, hc3⟩ := hq2.low hq20
 have HQ2 := hidP hq2; have HQ20 := hidP hq20; have HQ2Q := hidP hq2Q; have HG3 := hidP hg3; have HE3 := hidP he3
 have HR3 : Hid (rdq _ (.slice (some ⟨b3, o3, none⟩) n3 c3) = Q2) := hidP (rdq_eq hq2)
 have HD3 : Hid (dl Q2 ≤ 1099511627776) := hidP (Nat.le_trans (dl_mono hq2Q) HDQ.out)
 have hly : ((Q2 % 4294967296 : Nat) : Int) % 2 = ((Q2 % 2 : Nat) : Int) := by omega
 have hyb : Q2 % 4294967296 < 4294967296 := Nat.mod_lt _ (by decide)
 have h01y : Q2 % 2 = 0 ∨ Q2 % 2 = 1 := Nat.mod_two_eq_zero_or_one Q2
 clear hq2 hq20 hq2Q hg3 he3
 generalize Q2 % 4294967296 = y0 at *
 rcases h01y with hy1 | hy1
 · have HYE := hidP hy1
   rw [hy1] at hly
   clear hy1
   go_wp2_with fail
   refine (q_halved HQ2.out HD3.out).mono ?_
   rintro e u7 ⟨a7, n7, c7, rfl, hs7, he7⟩
   have HS7 := hidP hs7
   have HHE := hidP (HE3.out.trans he7)
   clear hs7 he7 hc3
   go_wp2_with fail
   go_roundw
   case rel => exact ⟨Q2 / 2, a7, n7, c7, rfl, HS7.out, by have := HQ20.out; have := HYE.out; omega, by have := HQ2Q.out; omega, by rw [Nat.gcd_comm, gcd_left HYE.out (by rw [Nat.gcd_comm, HG3.out]; exact HODD.out), Nat.gcd_comm]; exact HG3.out, HHE.out⟩
   case measure =>
    rw [HR3.out, rdq_eq HS7.out]
    have := HQ20.out
    omega
 rw [hy1] at hly
 clear hy1
 have HPE : Hid (Qc wr (some ⟨b2, o2, none⟩) n2 c2 P2) := hidP (HP2.out.ext HE3.out)
 have HEA := hidP ((HE.out.trans HE2.out).trans HE3.out)
 by_cases hlt : P2 < Q2
 · have HLT := hidP hlt
   clear hlt
   go_wp2_with fail
   refine (q_below HPE.out HQ2.out HD2.out HD3.out).mono ?_
   rw [decide_eq_true HLT.out]
   rintro e u8 ⟨rfl, he8⟩
   have HE8 := hidP he8; clear he8
   go_wp2_with fail
   refine (q_less (HQ2.out.ext HE8.out) (HPE.out.ext HE8.out) HD3.out (Nat.le_of_lt HLT.out)).mono ?_
   rintro e u9 ⟨a9, n9, c9, rfl, hs9, he9⟩
   have HS9 := hidP hs9; have HE9 := hidP (HE8.out.trans he9)
   have HPF : Hid (Qc u9 (some ⟨b2, o2, none⟩) n2 c2 P2) := hidP ((HPE.out.ext HE8.out).ext he9)
   clear hs9 he9
   go_wp2_with fail
   go_roundw
   case rel => exact ⟨P2, Q2 - P2, _, a9, n2, c2, n9, c9, rfl, rfl, HPF.out, HS9.out, by have := HLT.out; omega, Nat.le_trans HP2P.out HPA.out, by have := HQ2Q.out; have := HQB.out; omega, by rw [Nat.gcd_sub_self_right (Nat.le_of_lt HLT.out)]; exact HG3.out, HEA.out.trans HE9.out⟩
   case measure =>
    rw [HRP.out, HRQ.out, rdq_eq HPF.out, rdq_eq HS9.out]
    have := HLT.out; have := HP2P.out; have := HQ2Q.out; have := HP20.out
    omega
 have HLT := hidP hlt
 clear hlt
 go_wp2_with fail
 refine (q_below HPE.out HQ2.out HD2.out HD3.out).mono ?_
 rw [decide_eq_false HLT.out]
 rintro e u8 ⟨rfl, he8⟩
 have HE8 := hidP he8; clear he8
 go_wp2_with fail
 refine (q_less (HPE.out.ext HE8.out) (HQ2.out.ext HE8.out) HD2.out (by have := HLT.out; omega)).mono ?_
 rintro e u9 ⟨a9, n9, c9, rfl, hs9, he9⟩
 have HS9 := hidP hs9; have HE9 := hidP (HE8.out.trans he9)
 have HQF : Hid (Qc u9 (some ⟨b3, o3, none⟩) n3 c3 Q2) := hidP ((HQ2.out.ext HE8.out).ext he9)
 clear hs9 he9
 go_wp2_with fail
 go_roundw
 case rel => exact ⟨P2 - Q2, Q2, a9, _, n9, c9, n3, c3, rfl, rfl, HS9.out, HQF.out, HQ20.out, by have := HP2P.out; have := HPA.out; omega, Nat.le_trans HQ2Q.out HQB.out, by rw [Nat.gcd_sub_self_left (by have := HLT.out; omega)]; exact HG3.out, HEA.out.trans HE9.out⟩
 case measure =>
  rw [HRP.out, HRQ.out, rdq_eq HS9.out, rdq_eq HQF.out]
  have := HLT.out; have := HP2P.out; have := HQ2Q.out; have := HQ20.out
  omega
end Go.Proofs.YtgjjalnmigdjgaaGreat
namespace Go.Proofs.YtgjjalnmigdjgaaGreat
set_option linter.unusedVariables false
open Go Go.RowKit
section
variable {P : Program} {c rest : Code} {a : Act} {w : World} {Q : Exit → Act → World → Prop}
end
end Go.Proofs.YtgjjalnmigdjgaaGreat
namespace Go.Proofs.YtgjjalnmigdjgaaGreat
set_option linter.unusedVariables false
open Go Go.RowKit
set_option maxRecDepth 100000 in
set_option maxHeartbeats 2000000 in
theorem q_Reduce {a a' : Option Addr} {n cap n' cap' A B : Nat} {w : World} (h : Nu w a n cap A) (h' : Nu w a' n' cap' B) :
    Calls Tryz.prog 145 #[.slice a n cap, .slice a' n' cap'] w (RetN2 w (A / Nat.gcd A B) (B / Nat.gcd A B)) := by
  have hgd : dl (Nat.gcd A B) ≤ 1099511627776 := by
    have dA := h.dl; have := h.2
    have dB := h'.dl; have := h'.2
    rcases Nat.eq_zero_or_pos A with ha | ha
    · rw [ha, Nat.gcd_zero_left]; omega
    · exact Nat.le_trans (dl_mono (Nat.gcd_le_left B ha)) (by omega)
  have G := hidP (q_Gcd h h')
  have H := hidP h; have H' := hidP h'; have HGD := hidP hgd
  clear h h' hgd
  generalize Nat.gcd A B = g at *
  go_enter Tryz.func145, Tryz.ntmps145
  go_wp2_with fail
  refine G.out.mono ?_
  rintro e u1 ⟨a1, n1, c1, rfl, hs1, he1⟩
  have hlen := hs1.len
  have HE := hidP he1; have HS1 := hidP hs1
  clear he1 hs1
  by_cases hg : g = 0
  · have hn1 : n1 = 0 := by rw [hlen, hg, dl_zero]
    subst hn1
    have HG := hidP hg
    clear hlen hg
    go_wp2_with fail
    go_ret2
    exact ⟨none, 0, 0, none, 0, 0, rfl, by rw [HG.out, Nat.div_zero]; exact Nc.zero _, by rw [HG.out, Nat.div_zero]; exact Nc.zero _, HE.out⟩
  · have hn1 : 0 < n1 := by rw [hlen]; rcases Nat.eq_zero_or_pos (dl g) with h | h; (exact absurd (dl_eq_zero.1 h) hg); exact h
    have hnz : ((n1 : Int) == 0) = false := by simp; omega
    have HLEN := hidP hlen
    have hd1 := d_Div (H.out.ext HE.out) (HS1.out.nu HGD.out)
    unfold RetQR at hd1
    rw [decide_eq_true hg, if_neg hg, if_neg hg] at hd1
    have HD1 := hidP hd1
    have HG := hidP hg
    clear hd1 hlen hg
    go_wp2_with fail
    refine HD1.out.mono ?_
    rintro e u2 ⟨aq, nq, cq, ar, nr, cr, rfl, hq, hr, he2⟩
    have HQ := hidP hq; have HS2 := hidP (HS1.out.ext he2); have HE2 := hidP (HE.out.trans he2)
    clear hq hr he2
    have hd2 := d_Div (H'.out.ext HE2.out) (HS2.out.nu HGD.out)
    unfold RetQR at hd2
    rw [decide_eq_true HG.out, if_neg HG.out, if_neg HG.out] at hd2
    have HD2 := hidP hd2
    clear hd2
    go_wp2_with fail
    refine HD2.out.mono ?_
    rintro e u3 ⟨aq2, nq2, cq2, ar2, nr2, cr2, rfl, hq2, hr2, he3⟩
    have HQ2 := hidP hq2; have HQE := hidP (HQ.out.ext he3); have HE3 := hidP (HE2.out.trans he3)
    clear hq2 hr2 he3
    go_wp2_with fail
    go_ret2
    exact ⟨_, _, _, _, _, _, rfl, HQE.out, HQ2.out, HE3.out⟩
end Go.Proofs.YtgjjalnmigdjgaaGreat
