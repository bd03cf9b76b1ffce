/- A text's lines: the document's. -/
import Derived.Test.YtlhaepcnhkaclaaDoorX8
import Derived.Deep.DeepCutAuto
import Derived.Deep.CutBlock
namespace Go.Proofs.YtlhaepcnhkaclaaDoor
set_option linter.unusedVariables false
set_option linter.unusedSimpArgs false
open Go Go.RowKit

theorem line_end {l : List Nat} {n fr t : Nat} (hn : l.length = n) (h1 : fr ≤ t) (h2 : t ≤ n) (h3 : ¬ 10 ∈ (l.drop fr).take (t - fr)) (h4 : t = n) (h0 : fr < n) : linesP (l.drop fr) = [((l.drop fr).take (t - fr), false)] := by
  have e : (l.drop fr).take (t - fr) = l.drop fr := List.take_of_length_le (by rw [List.length_drop]; omega)
  rw [e] at h3 ⊢
  exact linesP_no h3 (by intro h; have := congrArg List.length h; simp at this; omega)
theorem line_on {l : List Nat} {n fr t : Nat} (hn : l.length = n) (h1 : fr ≤ t) (h2 : t < n) (h3 : ¬ 10 ∈ (l.drop fr).take (t - fr)) (h4 : l.getD t 0 = 10) : linesP (l.drop fr) = ((l.drop fr).take (t - fr), true) :: linesP (l.drop (t + 1)) := by
  have hlt : t < l.length := by omega
  have e : l.drop fr = (l.drop fr).take (t - fr) ++ 10 :: l.drop (t + 1) := by
    conv => lhs; rw [← List.take_append_drop (t - fr) (l.drop fr)]
    rw [List.drop_drop, show fr + (t - fr) = t by omega, List.drop_eq_getElem_cons hlt]
    have : l[t] = 10 := by rw [← h4, List.getD_eq_getElem?_getD, List.getElem?_eq_getElem hlt]; rfl
    rw [this]
  conv => lhs; rw [e]
  exact linesP_at h3
theorem take_more {l : List Nat} {fr t c : Nat} (h1 : fr ≤ t) (h2 : t < l.length) (h3 : ¬ 10 ∈ (l.drop fr).take (t - fr)) (hc : l.getD t 0 = c) (h4 : c ≠ 10) : ¬ 10 ∈ (l.drop fr).take (t + 1 - fr) := by
  rw [show t + 1 - fr = (t - fr) + 1 by omega, List.take_succ_eq_append_getElem (by rw [List.length_drop]; omega), List.mem_append, not_or]
  refine ⟨h3, ?_⟩
  rw [List.mem_singleton, List.getElem_drop]
  intro e
  apply h4
  rw [← hc, List.getD_eq_getElem?_getD, List.getElem?_eq_getElem h2]
  have : fr + (t - fr) = t := by omega
  simp only [this] at e
  simp [← e]

/-- One element more: what the walk is told of the world. -/
theorem wpList_appS {P : Program} {ops : Array Oper} {rest : List Oper} {o : Oper} {a : Act} {Q : Exit → Act → World → Prop} {w : World} {t e : TypeId} {z : Value} {bytes B : Nat} (hT : SlT P t e z bytes)
    (hgd : o.guard = none) (s x : Operand) (ho : o.op = .call { callee := .builtin .append, args := #[s, x], argTypes := #[t, t] })
    {v : Value} {n : Nat} {xs : List Value} (hown : w.ownsRow B e 1 v n xs) (hB : B ≤ w.heap.size) {ad : Addr} {c : Nat} (u : Value) (hs : a.eval s = v) (hx : a.eval x = .slice (some ad) 1 c)
    (hnews : ∀ j y, [u][j]? = some y → w.cell? (ad.add j) = some y) (h1 : u.oneCell' = true) (hb : n + 1 ≤ 17592186044416) (hb' : (n + 1) * bytes ≤ 140737488355328)
    (h : ∀ v' w', w'.ownsRow B e 1 v' (n + 1) (xs ++ [u]) → w.grownBy w' v.ownBlock → wpList P ops Q rest (a.put o.dst v') w') : wpList P ops Q (o :: rest) a w := by
  obtain ⟨ht, i, hi, hz, hsz, hby, hzs⟩ := hT
  refine wpList_append_own w hgd s x t ho B e i z 1 bytes ht hi hz hsz hby hzs (by decide) v n xs hs hown ad 1 c [u] hx rfl hnews (by simpa using h1) (by unfold maxLen; omega) hb' hB ?_
  intro v' w' h2 h3 _
  exact h v' w' h2 h3
theorem oneL_14 {n : Nat} {p : List Nat} (h1 : ¬ 1000 < n) (h2 : 4096 < p.length) : oneL n p true = (14, []) := by
  unfold oneL
  rw [if_neg h1, if_neg (by decide : ¬ (true = false)), if_pos h2]
theorem oneL_ws {n : Nat} {p : List Nat} (h1 : ¬ 1000 < n) (h2 : ¬ 4096 < p.length) : oneL n p true = match wordsL p with
    | none => (3, [])
    | some ps => (0, ps) := by
  unfold oneL
  rw [if_neg h1, if_neg (by decide : ¬ (true = false)), if_neg h2]
  rfl
theorem linesF_bad {x : List Nat × Bool} {r : List (List Nat × Bool)} {acc : List (List (List Nat))} {k : Nat} (h : oneL (acc.length + 1) x.1 x.2 = (k + 1, [])) : linesF (x :: r) acc = ([], acc.length + 1, k + 1) := by
  unfold linesF
  rw [h]
  rfl
set_option maxRecDepth 100000 in
set_option maxHeartbeats 8000000 in
theorem d_Lines (a : Option Addr) (n c : Nat) (l : List Nat) (w : World) (h : Sl w a n c (ints .u8 l)) (hl : ∀ x ∈ l, x ≤ 255) (hn : n ≤ 9223372036854775807) :
    Calls Tryd.prog 7 #[.slice a n c] w (RetLs w (linesF (linesP l) [])) := by
  have H := hidP h
  have HL := hidP hl
  have hln := h.int_len
  have HLN := hidP hln
  have hcap := h.2.1
  have hcm := h.2.2.1
  unfold maxLen at hcm
  have HEND := hidP (fun (fr t : Nat) (h1 : fr ≤ t) (h2 : t ≤ n) (h3 : ¬ 10 ∈ (l.drop fr).take (t - fr)) (h4 : t = n) (h0 : fr < n) => line_end hln h1 h2 h3 h4 h0)
  have HON := hidP (fun (fr t : Nat) (h1 : fr ≤ t) (h2 : t < n) (h3 : ¬ 10 ∈ (l.drop fr).take (t - fr)) (h4 : l.getD t 0 = 10) => line_on hln h1 h2 h3 h4)
  have HFIN : Hid (linesP (l.drop n) = []) := hidP (by rw [List.drop_eq_nil_of_le (by omega)]; rfl)
  have H0 : Hid (linesF (linesP l) [] = linesF (linesP (l.drop 0)) []) := hidP rfl
  generalize hall : linesF (linesP l) [] = All at *
  clear h hl hln hall
  go_enter Tryd.func7, Tryd.ntmps7
  go_wp2_with fail
  go_loopw [5, 6] (fun v fv wr => ∃ (fr : Nat) (vs : List Value) (acc : List (List (List Nat))), fr ≤ n ∧ fv = .int .i64 (fr : Int) ∧ wr.ownsRow w.heap.size 53 1 v acc.length vs ∧ InnR wr vs acc ∧ acc.length ≤ 1000 ∧ Hid (All = linesF (linesP (l.drop fr)) acc) ∧ Ext w wr) (fun _ fv _ => n - (intOf fv).toNat)
  case atStart => exact ⟨0, [], [], Nat.zero_le _, rfl, World.ownsRow_nil _ _ _ _, ⟨rfl, fun i hi => absurd hi (by simp)⟩, by simp, H0, Ext.refl _⟩
  case round =>
    clear H0
    obtain ⟨fr, vs, acc, hfr, rfl, hown, hinn, hac, HF, HE⟩ := hrel
    obtain ⟨av, cv, rfl, -⟩ := owns_slice hown
    by_cases hlt : fr < n
    · obtain ⟨g, o, rfl, hc⟩ := (H.out.ext HE).2.2.2 (by omega)
      have HC : Hid (∀ t, t < n → wr.cell? ⟨g, o + t, none⟩ = some (.int .u8 ((l.getD t 0 : Nat) : Int))) := hidP (fun t ht => by
        have hx : t < l.length := by rw [HLN.out]; exact ht
        rw [List.getD_eq_getElem?_getD, List.getElem?_eq_getElem hx]
        exact hc t _ (by simp [ints, List.getElem?_map, List.getElem?_eq_getElem hx]))
      clear hc
      have hlt0 : (fr : Int) < (n : Int) := by omega
      go_upto_block 2 with fail
      go_cut [8] (fun t8 wx => ∃ t : Nat, fr ≤ t ∧ t ≤ n ∧ t8 = .int .i64 (t : Int) ∧ Hid (¬ 10 ∈ (l.drop fr).take (t - fr)) ∧ Hid (t = n ∨ (t < n ∧ l.getD t 0 = 10)) ∧ wx = wr)
      case first =>
        obtain ⟨wo, rfl⟩ : ∃ wo, wo = wr := ⟨_, rfl⟩
        go_wp2_with fail
        go_loopw [8] (fun tv wi => ∃ t : Nat, fr ≤ t ∧ t ≤ n ∧ tv = .int .i64 (t : Int) ∧ Hid (¬ 10 ∈ (l.drop fr).take (t - fr)) ∧ wi = wo) (fun tv _ => n - (intOf tv).toNat)
        case atStart => exact ⟨fr, Nat.le_refl _, hfr, rfl, hidP (by simp), rfl⟩
        case round =>
          obtain ⟨t, h1, h2, rfl, HT, rfl⟩ := hrel
          by_cases htn : t < n
          · have hct := HC.out t htn
            by_cases h10 : l.getD t 0 = 10
            · rw [h10] at hct
              have hti : (t : Int) < (n : Int) := by omega
              have HX : Hid (t = n ∨ (t < n ∧ l.getD t 0 = 10)) := hidP (.inr ⟨htn, h10⟩)
              clear h10
              go_wp2_with fail
              go_meet
              exact ⟨t, h1, h2, rfl, HT, HX, rfl⟩
            · have HT2 := hidP (take_more h1 (by rw [HLN.out]; exact htn) HT.out rfl h10)
              have hti : (t : Int) < (n : Int) := by omega
              generalize l.getD t 0 = ct at *
              have hne : ((ct : Int) != 10) = true := by simp; omega
              clear h10 HT
              go_wp2_with fail
              go_roundw
              case rel => exact ⟨t + 1, by omega, by omega, by go_num, HT2, by first | rfl | trivial⟩
              case measure => simp only [intOf]; omega
          · have HX : Hid (t = n ∨ (t < n ∧ l.getD t 0 = 10)) := hidP (.inl (by omega))
            have hti : ¬ (t : Int) < (n : Int) := by omega
            go_wp2_with fail
            go_meet
            exact ⟨t, h1, h2, rfl, HT, HX, rfl⟩
      case rest =>
        obtain ⟨t, h1, h2, rfl, HT, HX, rfl⟩ := hcut
        clear HC
        have hk1 : (acc.length : Int) + 1 ≤ 1001 := by omega
        by_cases c1 : 1000 < acc.length + 1
        · have c1' : (1000 : Int) < (acc.length : Int) + 1 := by omega
          have HR : Hid (All = ([], acc.length + 1, 7)) := hidP (by
            rw [HF.out]
            rcases HX.out with h3 | ⟨h3, h4⟩
            · rw [HEND.out fr t h1 h2 HT.out h3 hlt]
              show (if (oneL (acc.length + 1) _ false).1 = 0 then _ else _) = _
              unfold oneL; rw [if_pos c1]; rfl
            · rw [HON.out fr t h1 h3 HT.out h4]
              show (if (oneL (acc.length + 1) _ true).1 = 0 then _ else _) = _
              unfold oneL; rw [if_pos c1]; rfl)
          go_wp2_with fail
          go_ret3
          rw [HR.out]
          exact ⟨_, _, _, rfl, ⟨[], Sl.nil _, rfl, fun i hi => absurd hi (by simp)⟩, HE⟩
        · have c1' : ¬ (1000 : Int) < (acc.length : Int) + 1 := by omega
          rcases HX.out with h3 | ⟨h3, h4⟩
          · have HR : Hid (All = ([], acc.length + 1, 11)) := hidP (by
              rw [HF.out, HEND.out fr t h1 h2 HT.out h3 hlt]
              show (if (oneL (acc.length + 1) _ false).1 = 0 then _ else _) = _
              unfold oneL; rw [if_neg c1, if_pos rfl]; rfl)
            subst h3
            clear c1
            go_wp2_with fail
            go_ret3
            rw [HR.out]
            exact ⟨_, _, _, rfl, ⟨[], Sl.nil _, rfl, fun i hi => absurd hi (by simp)⟩, HE⟩
          · have HLP := hidP (HON.out fr t h1 h3 HT.out h4)
            have hne : ((t : Int) == (n : Int)) = false := by simp; omega
            have hnt : ¬ t = n := by omega
            clear HX h4
            have hsl := H.out.ext HE
            have hpl : ((l.drop fr).take (t - fr)).length = t - fr := by rw [List.length_take, List.length_drop, HLN.out]; omega
            by_cases c2 : 4096 < t - fr
            · have c2' : (4096 : Int) < (t : Int) - (fr : Int) := by omega
              have HR : Hid (All = ([], acc.length + 1, 14)) := hidP (by
                rw [HF.out, HLP.out]
                exact linesF_bad (oneL_14 c1 (by rw [hpl]; exact c2)))
              clear c1 c2 hnt hpl hsl
              go_wp2_with fail
              go_ret3
              rw [HR.out]
              exact ⟨_, _, _, rfl, ⟨[], Sl.nil _, rfl, fun i hi => absurd hi (by simp)⟩, HE⟩
            · have c2' : ¬ (4096 : Int) < (t : Int) - (fr : Int) := by omega
              have hsp := (hsl.dropB (k := fr) (by omega)).takeB (k := t - fr) (m := c - fr) (by omega) (by omega) (Nat.le_refl _)
              have hp255 : ∀ x ∈ (l.drop fr).take (t - fr), x ≤ 255 := fun x hx => HL.out x (List.mem_of_mem_drop (List.mem_of_mem_take hx))
              have hcv := str_of hsp hp255
              have HONE : Hid (oneL (acc.length + 1) ((l.drop fr).take (t - fr)) true = match wordsL ((l.drop fr).take (t - fr)) with
                | none => (3, [])
                | some ps => (0, ps)) := hidP (oneL_ws c1 (by rw [hpl]; omega))
              have HW := hidP (fun (u : World) => (by
                have := d_words (bytesOf ((l.drop fr).take (t - fr))) u (by rw [bytesOf_size, hpl]; omega)
                rw [natsOf_bytesOf _ hp255] at this
                exact this : Calls Tryd.prog 17 #[.string (bytesOf ((l.drop fr).take (t - fr)))] u (RetWs u (wordsL ((l.drop fr).take (t - fr))))))
              have HS : Hid (All = if (oneL (acc.length + 1) ((l.drop fr).take (t - fr)) true).1 = 0 then linesF (linesP (l.drop (t + 1))) (acc ++ [(oneL (acc.length + 1) ((l.drop fr).take (t - fr)) true).2]) else ([], acc.length + 1, (oneL (acc.length + 1) ((l.drop fr).take (t - fr)) true).1)) := hidP (by rw [HF.out, HLP.out]; rfl)
              generalize (l.drop fr).take (t - fr) = p at *
              generalize oneL (acc.length + 1) p true = rr at *
              clear hpl hp255 hsp hsl HF HLP HT hnt c1 c2
              go_wp2_with fail
              refine (HW.out _).mono ?_
              generalize wordsL p = ww at *
              cases ww with
              | none =>
                rintro e u1 ⟨rfl, hx⟩
                have HR : Hid (All = ([], acc.length + 1, 3)) := hidP (by rw [HS.out, HONE.out]; rfl)
                have hEE := HE.trans hx
                go_wp2_with fail
                go_ret3
                rw [HR.out]
                exact ⟨_, _, _, rfl, ⟨[], Sl.nil _, rfl, fun i hi => absurd hi (by simp)⟩, hEE⟩
              | some ps =>
                rintro e u1 ⟨v1, rfl, hv1, hx⟩
                obtain ⟨a1, c1, rfl, -⟩ := owns_slice hv1
                have HR : Hid (All = linesF (linesP (l.drop (t + 1))) (acc ++ [ps])) := hidP (by rw [HS.out, HONE.out]; rfl)
                have hEE := HE.trans hx
                have g2 := owns_ext hown hx
                have g3 := hinn.ext hx
                have hal : Ext u1 (u1.alloc (.cells #[.slice a1 ps.length c1] 53)) := (Ext.refl _).alloc _
                have g2a := g2.alloc (.cells #[.slice a1 ps.length c1] 53)
                have hB : w.heap.size ≤ (u1.alloc (.cells #[.slice a1 ps.length c1] 53)).heap.size := by rw [World.size_alloc]; have := hEE.size; omega
                have HV := hidP hv1; have HG3 := hidP g3; have HAL := hidP hal; have HG2 := hidP g2a; have HB := hidP hB
                clear hown hinn hv1 g2 g3 hal g2a hB HE hx
                go_wp2_with (at_builtin; refine wpList_appS T_ss rfl _ _ rfl HG2.out HB.out (.slice a1 ps.length c1) rfl rfl (cell_one_new _ _ _) rfl (by omega) (by omega) ?_; intro v' w' hown' hgr; have hEX := (hEE.trans HAL.out).book hgr (fun r e => (HG2.out.lt r e).1); have hin2 := HG3.out.ext HAL.out |>.row HG2.out hgr |>.snoc ((owns_ext HV.out HAL.out).kept hgr (owns_other (owns_ext HV.out HAL.out) HG2.out (by decide))))
                go_roundw
                case rel => exact ⟨t + 1, _, acc ++ [ps], by omega, by go_num, by rw [show (acc ++ [ps]).length = acc.length + 1 by simp]; exact hown', hin2, by simp; omega, HR, hEX⟩
                case measure => simp only [intOf]; omega
    · obtain rfl : fr = n := by omega
      have HR : Hid (All = (acc, 0, 0)) := hidP (by rw [HF.out, HFIN.out]; rfl)
      have HOWN := hidP hown; have HINN := hidP hinn
      clear hown hinn
      go_wp2_with fail
      go_ret3
      rw [HR.out]
      obtain ⟨_, _, e8, s8⟩ := owns_slice HOWN.out
      cases e8
      exact ⟨_, _, _, rfl, HINN.out.ss s8, HE⟩

end Go.Proofs.YtlhaepcnhkaclaaDoor
