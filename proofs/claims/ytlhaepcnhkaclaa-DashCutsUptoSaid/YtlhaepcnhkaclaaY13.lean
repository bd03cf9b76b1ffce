/- Dashes, in the document: the pieces that are drawn. -/
import Derived.Test.YtlhaepcnhkaclaaY9
import Derived.Test.YtlhaepcnhkaclaaY12
namespace Go.Proofs.Ytlhaepcnhkaclaa
set_option linter.unusedVariables false
set_option linter.unusedSimpArgs false
open Go Go.RowKit


set_option maxRecDepth 100000 in
set_option maxHeartbeats 4000000 in
theorem dr_Cut_no (a : Option Addr) (n cap : Nat) (l : List Pt) (c : Bool) (pa : Option Addr) (pn pc : Nat) (pat : List Int) (ph : Int) (w : World) (h : SlP w a n cap l) (hp : Sl w pa pn pc (izs pat)) (hno : mayD pat ph = false) :
    Calls Try.prog 9 #[.agg #[.slice a n cap, .bool c], .slice pa pn pc, .int .i64 ph] w (RetCut w ([], 2)) := by
  have HM := hidP (fun u (q : Sl u pa pn pc (izs pat)) => dr_May pa pn pc pat ph u q)
  rw [hno] at HM
  have HP := hidP hp
  clear h hp hno
  go_enter Try.func9, Try.ntmps9
  go_wp2_with fail
  refine absC (fun x1 hx1 => ?_)
  have hx : Ext w x1 := by rw [hx1]; exact ((Ext.refl _).alloc _)
  have bp : Bl x1 (w.heap.size) #[.slice a n cap, .bool c] := by rw [hx1]; exact (Bl.new (by simp))
  have HE := hx
  clear hx
  clear hx1
  refine (HM.out _ (HP.out.ext HE)).mono ?_
  rintro e u1 ⟨rfl, hx⟩
  replace bp := Bl.ext hx bp (Nat.succ_pos _)
  replace HE := HE.trans hx
  clear hx
  go_wp2_with fail
  go_ret2
  exact ⟨none, 0, 0, rfl, SlLn.nil _, HE⟩

set_option maxRecDepth 100000 in
set_option maxHeartbeats 4000000 in
theorem dr_Cut_far (a : Option Addr) (n cap : Nat) (l : List Pt) (c : Bool) (pa : Option Addr) (pn pc : Nat) (pat : List Int) (ph : Int) (w : World) (h : SlP w a n cap l) (hp : Sl w pa pn pc (izs pat)) (hm : mayD pat ph = true) (hno : fitL l = false) :
    Calls Try.prog 9 #[.agg #[.slice a n cap, .bool c], .slice pa pn pc, .int .i64 ph] w (RetCut w ([], 4)) := by
  have HM := hidP (fun u (q : Sl u pa pn pc (izs pat)) => dr_May pa pn pc pat ph u q)
  have HF := hidP (fun u (q : SlP u a n cap l) => d_fits a n cap l u q)
  rw [hm] at HM
  rw [hno] at HF
  have HP := hidP hp; have H := hidP h
  clear h hp hno hm
  go_enter Try.func9, Try.ntmps9
  go_wp2_with fail
  refine absC (fun x1 hx1 => ?_)
  have hx : Ext w x1 := by rw [hx1]; exact ((Ext.refl _).alloc _)
  have bp : Bl x1 (w.heap.size) #[.slice a n cap, .bool c] := by rw [hx1]; exact (Bl.new (by simp))
  have HE := hx
  clear hx
  clear hx1
  refine (HM.out _ (HP.out.ext HE)).mono ?_
  rintro e u1 ⟨rfl, hx⟩
  replace bp := Bl.ext hx bp (Nat.succ_pos _)
  replace HE := HE.trans hx
  clear hx
  go_wp2_with fail
  refine (HF.out _ (H.out.ext HE)).mono ?_
  rintro e u2 ⟨rfl, hx⟩
  replace bp := Bl.ext hx bp (Nat.succ_pos _)
  replace HE := HE.trans hx
  clear hx
  go_wp2_with fail
  go_ret2
  exact ⟨none, 0, 0, rfl, SlLn.nil _, HE⟩

set_option maxRecDepth 100000 in
set_option maxHeartbeats 4000000 in
theorem dr_Cut_all (a : Option Addr) (n cap : Nat) (l : List Pt) (c : Bool) (pa : Option Addr) (pn pc : Nat) (pat : List Int) (ph : Int) (w : World) (h : SlP w a n cap l) (hp : Sl w pa pn pc (izs pat)) (hm : mayD pat ph = true) (hf : fitL l = true) (h0 : pat = []) :
    Calls Try.prog 9 #[.agg #[.slice a n cap, .bool c], .slice pa pn pc, .int .i64 ph] w (RetCut w ([(l, c)], 0)) := by
  have HM := hidP (fun u (q : Sl u pa pn pc (izs pat)) => dr_May pa pn pc pat ph u q)
  have HF := hidP (fun u (q : SlP u a n cap l) => d_fits a n cap l u q)
  rw [hm] at HM
  rw [hf] at HF
  have hpn : pn = 0 := by rw [← hp.z_len, h0]; rfl
  have HP := hidP hp; have H := hidP h
  clear h hp hf hm h0
  subst hpn
  go_enter Try.func9, Try.ntmps9
  go_wp2_with fail
  refine absC (fun x1 hx1 => ?_)
  have hx : Ext w x1 := by rw [hx1]; exact ((Ext.refl _).alloc _)
  have bp : Bl x1 (w.heap.size) #[.slice a n cap, .bool c] := by rw [hx1]; exact (Bl.new (by simp))
  have HE := hx
  clear hx
  clear hx1
  refine (HM.out _ (HP.out.ext HE)).mono ?_
  rintro e u1 ⟨rfl, hx⟩
  replace bp := Bl.ext hx bp (Nat.succ_pos _)
  replace HE := HE.trans hx
  clear hx
  go_wp2_with fail
  refine (HF.out _ (H.out.ext HE)).mono ?_
  rintro e u2 ⟨rfl, hx⟩
  replace bp := Bl.ext hx bp (Nat.succ_pos _)
  replace HE := HE.trans hx
  clear hx
  go_wp2_with fail
  go_ret2
  have hal : Ext u2 (u2.alloc (.cells #[.slice a n cap, .bool c] 24)) := ext_al (Ext.refl _) _
  have ho := own_one u2 0 24 2 #[.slice a n cap, .bool c] rfl (Nat.zero_le _)
  exact ⟨_, 1, 1, rfl, ⟨_, SlK.of_owns' ho, rfl, fun i hi => by
    obtain rfl : i = 0 := by simp at hi; omega
    exact ⟨a, n, cap, rfl, rfl, H.out.ext (HE.trans hal)⟩⟩, HE.trans hal⟩
theorem patD_pos {pat : List Int} (h : 0 < pat.length) : 0 < (patD pat).length := by unfold patD; split <;> (try simp) <;> omega
theorem patD_le {pat : List Int} (h : pat.length ≤ 8) : (patD pat).length ≤ 16 := by unfold patD; split <;> (try simp) <;> omega
theorem patD_get {pat : List Int} {k : Nat} (h : 0 < pat.length) : (patD pat)[k % (patD pat).length]? = some (patAt pat k) := by
  have hl : 0 < (patD pat).length := by unfold patD; split <;> (try simp) <;> omega
  have := patD_at pat k
  rw [List.getD_eq_getElem?_getD, List.getElem?_eq_getElem (Nat.mod_lt _ hl)] at this
  rw [List.getElem?_eq_getElem (Nat.mod_lt _ hl)]
  exact congrArg some this

set_option maxRecDepth 100000 in
set_option maxHeartbeats 8000000 in
theorem dr_Cut_main (a : Option Addr) (n cap : Nat) (l : List Pt) (c : Bool) (pa : Option Addr) (pn pc : Nat) (pat : List Int) (ph : Int) (w : World) (h : SlP w a n cap l) (hp : Sl w pa pn pc (izs pat)) (hm : mayD pat ph = true) (hf : fitL l = true) (h0 : pat ≠ []) (hn : n ≤ 4194303) :
    Calls Try.prog 9 #[.agg #[.slice a n cap, .bool c], .slice pa pn pc, .int .i64 ph] w (RetCut w ((cutR l c pat 2000 0 (-(ph.tmod (totD pat))) 0 []).1.map (fun x => (x, false)), (cutR l c pat 2000 0 (-(ph.tmod (totD pat))) 0 []).2)) := by
  obtain ⟨⟨hm1, hm2, hm3⟩, hm4⟩ := mayD_iff.1 hm
  have HM := hidP (fun u (q : Sl u pa pn pc (izs pat)) => dr_May pa pn pc pat ph u q)
  have HF := hidP (fun u (q : SlP u a n cap l) => d_fits a n cap l u q)
  rw [hm] at HM
  rw [hf] at HF
  have hpl := hp.z_len
  have hpn : 0 < pn := by rw [← hpl]; exact List.length_pos_iff.2 h0
  have HPA := hidP (fun u (q : Sl u pa pn pc (izs pat)) => dr_Pattern pa pn pc pat u q (by omega))
  have HTO := hidP (fun u (q : Sl u pa pn pc (izs pat)) => dr_Total pa pn pc pat u q (by omega) hm4)
  have HLG := hidP (fun u (q : SlP u a n cap l) => d_Long a n cap l c u q (by omega))
  have hln := h.len
  have hlb := long_bd (l := l) (c := c) (by omega)
  have hl0 := long_nn l c
  have HPC := hidP (fun u s t (q : SlP u a n cap l) (s1 : -9223372036854775808 ≤ s) (s2 : s ≤ 9223372036854775807) (t1 : -9223372036854775808 ≤ t) (t2 : t ≤ 9223372036854775807) => dr_piece a n cap l c s t u q hn s1 s2 t1 t2)
  have HBD : Hid (∀ k, 1 ≤ patAt pat k ∧ patAt pat k ≤ 8388607) := hidP (fun k => pat_bd (by omega) hm4)
  have hsb := sumZ_bd hm4
  have htot : 1 ≤ totD pat ∧ totD pat ≤ 134217712 := by
    unfold totD
    split <;> omega
  have htm : 0 ≤ ph.tmod (totD pat) ∧ ph.tmod (totD pat) ≤ 8388607 := by
    rw [Int.tmod_eq_emod_of_nonneg hm2]
    have h1 := Int.emod_nonneg ph (show totD pat ≠ 0 by omega)
    have h2 := Int.emod_lt_of_pos ph (show 0 < totD pat by omega)
    rcases Int.lt_or_le ph (totD pat) with h3 | h3
    · rw [Int.emod_eq_of_lt hm2 h3]; omega
    · omega
  have HPG := hidP (fun (k : Nat) => patD_get (pat := pat) (k := k) (by omega))
  have hpd0 := patD_pos (pat := pat) (by omega)
  have hpd1 := patD_le (pat := pat) (by omega)
  have HCR : Hid (∀ f k s m acc, cutR l c pat (f + 1) k s m acc = if s < longL l c then
      if 0 < s + patAt pat k then
        if 1000 < m + 1 then ([], 7)
        else cutR l c pat f (k + 1) (s + patAt pat k) (m + 1) (if k % 2 = 0 ∧ 1 < (pieceR l c (max s 0) (min (s + patAt pat k) (longL l c))).length then acc ++ [pieceR l c (max s 0) (min (s + patAt pat k) (longL l c))] else acc)
      else cutR l c pat f (k + 1) (s + patAt pat k) m acc
    else (acc, 0)) := hidP (fun _ _ _ _ _ => rfl)
  have HC0 : Hid (∀ k s m acc, cutR l c pat 0 k s m acc = (acc, 0)) := hidP (fun _ _ _ _ => rfl)
  have H := hidP h; have HP := hidP hp
  generalize hs0 : ph.tmod (totD pat) = s0 at *
  have HTD := hidP hs0
  have htz : ¬ totD pat = 0 := by omega
  obtain ⟨ht1, ht2⟩ := htot
  obtain ⟨hs1, hs2⟩ := htm
  have HWS := hidP (IntWalk.i64_in (-s0) (by omega))
  clear h hp hm hf hs0 hsb hpl hln hm4 h0
  generalize totD pat = tot at *
  generalize patD pat = P2 at *
  generalize longL l c = en at *
  generalize hXX : cutR l c pat 2000 0 (-s0) 0 [] = XX at *
  have HXX : Hid (XX = cutR l c pat (2000 - 0) 0 (-s0) 0 []) := hidP hXX.symm
  clear hXX
  go_enter Try.func9, Try.ntmps9
  go_wp2_with fail
  refine absC (fun x1 hx1 => ?_)
  have hx : Ext w x1 := by rw [hx1]; exact ((Ext.refl _).alloc _)
  have bp : Bl x1 (w.heap.size) #[.slice a n cap, .bool c] := by rw [hx1]; exact (Bl.new (by simp))
  have HE := hx
  clear hx
  clear hx1
  refine (HM.out _ (HP.out.ext HE)).mono ?_
  rintro e u1 ⟨rfl, hx⟩
  replace bp := Bl.ext hx bp (Nat.succ_pos _)
  replace HE := HE.trans hx
  clear hx
  go_wp2_with fail
  refine (HF.out _ (H.out.ext HE)).mono ?_
  rintro e u2 ⟨rfl, hx⟩
  replace bp := Bl.ext hx bp (Nat.succ_pos _)
  replace HE := HE.trans hx
  clear hx
  have hpz : ((pn : Int) == 0) = false := by simp; omega
  go_wp2_with fail
  refine (HPA.out _ (HP.out.ext HE)).mono ?_
  rintro e u3 ⟨ap, np, cp, rfl, hsp, hx⟩
  replace bp := Bl.ext hx bp (Nat.succ_pos _)
  replace HE := HE.trans hx
  clear hx
  go_wp2_with fail
  refine (HTO.out _ (HP.out.ext HE)).mono ?_
  rintro e u4 ⟨rfl, hx⟩
  replace bp := Bl.ext hx bp (Nat.succ_pos _)
  replace hsp := hsp.ext hx
  replace HE := HE.trans hx
  clear hx
  have htq := HTD.out
  go_wp2_with fail
  refine (HLG.out _ (H.out.ext HE)).mono ?_
  rintro e u5 ⟨rfl, hx⟩
  replace bp := Bl.ext hx bp (Nat.succ_pos _)
  replace hsp := hsp.ext hx
  replace HE := HE.trans hx
  clear hx
  have HNP : Hid (np = P2.length) := hidP hsp.z_len.symm
  have hnp0 : 0 < np := by have := HNP.out; omega
  have hnp1 : np ≤ 16 := by have := HNP.out; omega
  have HSP := hidP hsp
  have HBP := hidP bp
  have HWU : Hid (w.heap.size ≤ u5.heap.size) := hidP HE.size
  clear hsp
  go_wp2_with fail
  go_loopw [9, 11, 12, 13] (fun sv vv nv kv wr => ∃ (k m : Nat) (s : Int) (vs : List Value) (acc : List (List Pt)), kv = .int .i64 (k : Int) ∧ sv = .int .i64 s ∧ nv = .int .i64 (m : Int) ∧ k ≤ 2000 ∧ m ≤ 1000 ∧ acc.length ≤ m ∧ -8388607 ≤ s ∧ s ≤ 8388607 * (k : Int) ∧ wr.ownsRow u5.heap.size 24 2 vv acc.length vs ∧ InnP wr vs acc ∧ Hid (XX = cutR l c pat (2000 - k) k s m acc) ∧ Bl wr w.heap.size #[.slice a n cap, .bool c] ∧ Ext u5 wr ∧ Ext w wr) (fun _ _ _ kv _ => 2000 - (intOf kv).toNat)
  case atStart => exact ⟨0, 0, _, [], [], rfl, rfl, rfl, by omega, by omega, by simp, by omega, by omega, World.ownsRow_nil _ _ _ _, ⟨rfl, fun i hi => absurd hi (by simp)⟩, HXX, bp, Ext.refl _, HE⟩
  case round =>
    clear HE bp HXX
    obtain ⟨k, m, s, vs, acc, rfl, rfl, rfl, hk, hmm, hal, s1, s2, hown, hin, HX, bp, HE5, HE⟩ := hrel
    by_cases hk2 : k = 2000
    · subst hk2
      have HR : Hid (XX = (acc, 0)) := hidP (by rw [HX.out, show 2000 - 2000 = 0 from rfl, HC0.out])
      obtain ⟨a9, c9, rfl, hs9⟩ := SlK.of_owns hown
      have HS9 := hidP hs9; have HIN := hidP hin
      clear hown hs9 hin HX
      go_wp2_with fail
      go_ret2
      rw [HR.out]
      exact ⟨_, _, _, rfl, HIN.out.ln HS9.out, HE⟩
    · have hX := HX.out
      rw [show 2000 - k = (2000 - (k + 1)) + 1 by omega, HCR.out] at hX
      have hk3 : k < 2000 := by omega
      by_cases hse : s < en
      · rw [if_pos hse] at hX
        have hmd : k % np < np := Nat.mod_lt _ hnp0
        obtain ⟨b, off, rfl, hc⟩ := (HSP.out.ext HE5).2.2.2 hnp0
        have hpg := HPG.out k
        rw [← HNP.out] at hpg
        have h1 := hc (k % np) (.int .i64 (patAt pat k)) (by simp only [izs, List.getElem?_map, hpg, Option.map_some])
        have htm2 : ((k : Int)).tmod (np : Int) = ((k % np : Nat) : Int) := by
          rw [Int.tmod_eq_emod_of_nonneg (by omega)]; simp
        obtain ⟨x1, x2⟩ := HBD.out k
        have hmd2 : ((k : Int)).tmod 2 = ((k % 2 : Nat) : Int) := by rw [Int.tmod_eq_emod_of_nonneg (by omega)]; omega
        have hnz : ¬ np = 0 := by omega
        clear hc hpg HX
        generalize patAt pat k = x at *
        generalize k % np = q at *
        by_cases hsx : 0 < s + x
        · rw [if_pos hsx] at hX
          by_cases hmany : 1000 < m + 1
          · rw [if_pos hmany] at hX
            have HR := hidP hX
            have hmi : (1000 : Int) < (m : Int) + 1 := by omega
            clear hX hown hin
            go_wp2_with fail
            go_ret2
            rw [HR.out]
            exact ⟨none, 0, 0, rfl, SlLn.nil _, HE⟩
          · rw [if_neg hmany] at hX
            have hmi : (m : Int) + 1 ≤ 1000 := by omega
            rcases (by omega : k % 2 = 1 ∨ k % 2 = 0) with h2 | h2
            · rw [if_neg (by omega)] at hX
              have HR := hidP hX
              rw [h2] at hmd2
              have hmd3 : ((k : Int)).tmod 2 = 1 := hmd2
              clear hX hmd2 h2
              go_wp2_with fail
              go_roundw
              case rel => exact ⟨k + 1, m + 1, s + x, vs, acc, by go_num, rfl, by go_num, by omega, by omega, by omega, by omega, by omega, hown, hin, HR, bp, HE5, HE⟩
              case measure => simp only [intOf]; omega
            · rw [h2] at hmd2
              have hmd3 : ((k : Int)).tmod 2 = 0 := hmd2
              have HPI := hidP (fun u (q : SlP u a n cap l) => HPC.out u (max s 0) (min (s + x) en) q (by omega) (by omega) (by omega) (by omega))
              generalize pieceR l c (max s 0) (min (s + x) en) = L at *
              simp only [h2, true_and] at hX
              have hXH := hidP hX
              clear hX hmd2 h2
              go_wp2_with fail
              refine (HPI.out _ (H.out.ext HE)).mono ?_
              rintro e u7 ⟨a7, c7, rfl, ho7, hx⟩
              replace ho7 := own_base ho7 (Nat.zero_le _)
              replace hown := own_ext hown hx
              replace hin := hin.ext hx
              replace bp := Bl.ext hx bp (Nat.succ_pos _)
              replace HE5 := HE5.trans hx
              replace HE := HE.trans hx
              clear hx h1
              have hX := hXH.out
              by_cases hlen : 1 < L.length
              · rw [if_pos hlen] at hX
                have HR := hidP hX
                have hli : (1 : Int) < (L.length : Int) := by omega
                have hBz : u5.heap.size ≤ u7.heap.size := HE5.size
                have hal1 : Ext u7 (u7.alloc (.cells #[.slice a7 L.length c7, .bool false] 24)) := ext_al (Ext.refl _) _
                clear hX hXH
                have hL : Hid (L.length = L.length) := hidP rfl
                go_wp2_with (at_builtin; refine wpList_appG T_ln rfl _ _ rfl hown hBz #[.slice a7 L.length c7, .bool false] rfl (by intro u hu; simp at hu; rcases hu with rfl | rfl <;> rfl) rfl rfl (by omega) (by omega) ?_; intro v8 w8 hown8 hgr8; obtain ⟨a8, c8, rfl, -⟩ := SlK.of_owns hown8)
                have k2 := own_ext hown hal1
                have hE8 : Ext u5 w8 := (HE5.trans hal1).book hgr8 (fun r e => (k2.lt r e).1)
                have hE9 : Ext w w8 := (HE.trans hal1).book hgr8 (fun r e => Nat.le_trans HWU.out (k2.lt r e).1)
                have ho8 := own_ext ho7 hal1
                have hb8 : Bl w8 w.heap.size #[.slice a n cap, .bool c] := Bl.ext hE8 HBP.out (Nat.succ_pos _)
                go_roundw
                case rel => exact ⟨k + 1, m + 1, s + x, vs ++ [.slice a7 L.length c7, .bool false], acc ++ [L], by go_num, rfl, by go_num, by omega, by omega, by simp; omega, by omega, by omega, by rw [show (acc ++ [L]).length = acc.length + 1 by simp]; exact hown8, ((hin.ext hal1).row k2 hgr8 (by decide)).snoc (ho8.kept hgr8 (owns_other ho8 k2 (by decide))), HR, hb8, hE8, hE9⟩
                case measure => simp only [intOf]; omega
              · rw [if_neg hlen] at hX
                have HR := hidP hX
                have hli : (L.length : Int) ≤ 1 := by omega
                clear hX hXH
                go_wp2_with fail
                go_roundw
                case rel => exact ⟨k + 1, m + 1, s + x, vs, acc, by go_num, rfl, by go_num, by omega, by omega, by omega, by omega, by omega, hown, hin, HR, bp, HE5, HE⟩
                case measure => simp only [intOf]; omega
        · rw [if_neg hsx] at hX
          have HR := hidP hX
          clear hX hmd2
          go_wp2_with fail
          go_roundw
          case rel => exact ⟨k + 1, m, s + x, vs, acc, by go_num, rfl, rfl, by omega, by omega, by omega, by omega, by omega, hown, hin, HR, bp, HE5, HE⟩
          case measure => simp only [intOf]; omega
      · rw [if_neg hse] at hX
        have HR := hidP hX
        obtain ⟨a9, c9, rfl, hs9⟩ := SlK.of_owns hown
        have HS9 := hidP hs9; have HIN := hidP hin
        clear hown hs9 hin HX hX
        go_wp2_with fail
        go_ret2
        rw [HR.out]
        exact ⟨_, _, _, rfl, HIN.out.ln HS9.out, HE⟩
/-- The document's cut, whatever comes. -/
theorem dr_Cut (a : Option Addr) (n cap : Nat) (l : List Pt) (c : Bool) (pa : Option Addr) (pn pc : Nat) (pat : List Int) (ph : Int) (w : World) (h : SlP w a n cap l) (hp : Sl w pa pn pc (izs pat)) (hn : n ≤ 4194303) :
    Calls Try.prog 9 #[.agg #[.slice a n cap, .bool c], .slice pa pn pc, .int .i64 ph] w (RetCut w (cutA l c pat ph)) := by
  unfold cutA
  cases hm : mayD pat ph
  · rw [if_pos rfl]
    exact dr_Cut_no a n cap l c pa pn pc pat ph w h hp hm
  · rw [if_neg (by simp)]
    cases hf : fitL l
    · rw [if_pos rfl]
      exact dr_Cut_far a n cap l c pa pn pc pat ph w h hp hm hf
    · rw [if_neg (by simp)]
      by_cases h0 : pat = []
      · rw [if_pos h0]
        exact dr_Cut_all a n cap l c pa pn pc pat ph w h hp hm hf h0
      · rw [if_neg h0]
        have h4 := (mayD_iff.1 hm).2
        have e := cut_same (c := c) (pat := pat) hf (fun k => (pat_bd (List.length_pos_iff.2 h0) h4).1) 2000 0 (-(ph.tmod (totD pat))) 0 []
        rw [← e]
        exact dr_Cut_main a n cap l c pa pn pc pat ph w h hp hm hf h0 hn

end Go.Proofs.Ytlhaepcnhkaclaa
