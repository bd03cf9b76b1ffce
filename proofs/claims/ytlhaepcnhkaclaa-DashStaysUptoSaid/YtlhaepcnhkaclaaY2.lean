/- Dashes: patterns, and lines that may be. -/
import Derived.Test.YtlhaepcnhkaclaaPB
import Derived.Test.YtlhaepcnhkaclaaMG
namespace Go.Proofs.Ytlhaepcnhkaclaa
set_option linter.unusedVariables false
set_option linter.unusedSimpArgs false
open Go Go.RowKit

/-- A row of ints. -/
def izs (l : List Int) : List Value := l.map (.int .i64)
theorem izs_len (l : List Int) : (izs l).length = l.length := by simp [izs]
theorem izs_append (l m : List Int) : izs (l ++ m) = izs l ++ izs m := by simp [izs]
theorem Sl.z_len {w : World} {a : Option Addr} {n c : Nat} {l : List Int} (h : Sl w a n c (izs l)) : l.length = n := by rw [← izs_len]; exact h.1
theorem Sl.z_at {w : World} {a : Option Addr} {n c : Nat} {l : List Int} (h : Sl w a n c (izs l)) (h0 : 0 < n) : ∃ b off, a = some ⟨b, off, none⟩ ∧ ∀ (i : Nat) (hi : i < l.length), w.cell? ⟨b, off + i, none⟩ = some (.int .i64 l[i]) := by
  obtain ⟨b, off, e, hc⟩ := h.2.2.2 h0
  refine ⟨b, off, e, fun i hi => hc i _ ?_⟩
  simp [izs, List.getElem?_eq_getElem hi]
/-- A pattern's length that may be; a pattern and a phase that may be. -/
def dash1 (x : Int) : Bool := decide (1 ≤ x ∧ x ≤ 8388607)
def mayD (pat : List Int) (ph : Int) : Bool := decide (pat.length ≤ 8 ∧ 0 ≤ ph ∧ ph ≤ 8388607) && pat.all dash1
theorem all_take {f : Int → Bool} {l : List Int} {j : Nat} (h : j < l.length) : (l.take (j + 1)).all f = ((l.take j).all f && f l[j]) := by
  rw [List.take_succ_eq_append_getElem h, List.all_append]; simp
theorem all_no {f : Int → Bool} {l : List Int} {j : Nat} (h : j < l.length) (h2 : f l[j] = false) : l.all f = false := by
  rw [List.all_eq_false]
  exact ⟨l[j], List.getElem_mem h, by rw [h2]; exact Bool.false_ne_true⟩
/-- How long a pattern is. -/
def sumZ : List Int → Int
  | [] => 0
  | x :: r => x + sumZ r
theorem sumZ_snoc : ∀ (l : List Int) (x : Int), sumZ (l ++ [x]) = sumZ l + x
  | [], x => by simp [sumZ]
  | y :: r, x => by simp only [List.cons_append, sumZ, sumZ_snoc r x]; omega
theorem sumZ_append : ∀ (l m : List Int), sumZ (l ++ m) = sumZ l + sumZ m
  | [], m => by simp [sumZ]
  | y :: r, m => by simp only [List.cons_append, sumZ, sumZ_append r m]; omega
theorem sumZ_take {l : List Int} {j : Nat} (h : j < l.length) : sumZ (l.take (j + 1)) = sumZ (l.take j) + l[j] := by
  rw [List.take_succ_eq_append_getElem h, sumZ_snoc]
theorem sumZ_bd : ∀ {l : List Int}, (∀ x ∈ l, 1 ≤ x ∧ x ≤ 8388607) → (l.length : Int) ≤ sumZ l ∧ sumZ l ≤ 8388607 * (l.length : Int)
  | [], _ => by simp [sumZ]
  | x :: r, h => by
    have h1 := h x List.mem_cons_self
    have h2 := sumZ_bd (l := r) (fun y hy => h y (List.mem_cons_of_mem _ hy))
    simp only [sumZ, List.length_cons]
    omega
def totD (pat : List Int) : Int := if pat.length % 2 = 1 then sumZ pat * 2 else sumZ pat
theorem mayD_iff {pat : List Int} {ph : Int} : mayD pat ph = true ↔ (pat.length ≤ 8 ∧ 0 ≤ ph ∧ ph ≤ 8388607) ∧ ∀ x ∈ pat, 1 ≤ x ∧ x ≤ 8388607 := by
  unfold mayD dash1
  simp only [Bool.and_eq_true, decide_eq_true_eq, List.all_eq_true]

set_option maxRecDepth 100000 in
set_option maxHeartbeats 4000000 in
theorem dd_May (a : Option Addr) (n cap : Nat) (l : List Int) (ph : Int) (w : World) (h : Sl w a n cap (izs l)) :
    Calls Try.prog 17 #[.slice a n cap, .int .i64 ph] w fun e w' => e = .returned (.bool (mayD l ph)) ∧ Ext w w' := by
  have H := hidP h
  have HLN := hidP h.z_len
  have hcap : n ≤ maxLen := Nat.le_trans h.2.1 h.2.2.1
  unfold maxLen at hcap
  clear h
  by_cases hok : n ≤ 8 ∧ 0 ≤ ph ∧ ph ≤ 8388607
  · have HF : Hid (∀ j (hj : j < l.length), dash1 l[j] = false → mayD l ph = false) := hidP (fun j hj h => by unfold mayD; rw [all_no hj h, Bool.and_false])
    have HT : Hid (l.all dash1 = true → mayD l ph = true) := hidP (fun h => by unfold mayD; rw [h, HLN.out, decide_eq_true hok]; rfl)
    have HE0 : Hid ((l.take 0).all dash1 = true) := hidP (by simp)
    obtain ⟨o1, o2, o3⟩ := hok
    go_enter Try.func17, Try.ntmps17
    go_wp2_with fail
    go_loopw [20] (fun iv wr => ∃ j : Nat, j ≤ n ∧ iv = .int .i64 (j : Int) ∧ Hid ((l.take j).all dash1 = true) ∧ Ext w wr) (fun iv _ => n - (intOf iv).toNat)
    case atStart => exact ⟨0, by omega, rfl, HE0, Ext.refl _⟩
    case round =>
      clear HE0
      obtain ⟨j, hj, rfl, HJ, HE⟩ := hrel
      by_cases hlt : j < n
      · obtain ⟨g, off, rfl, hc⟩ := (H.out.ext HE).z_at (by omega)
        have hjl : j < l.length := by rw [HLN.out]; exact hlt
        have h1 := hc j hjl
        have HF1 := hidP (HF.out j hjl)
        have HT1 := hidP (all_take (f := dash1) hjl)
        clear hc
        generalize l[j] = x at *
        by_cases hx : 1 ≤ x ∧ x ≤ 8388607
        · have HR : Hid ((l.take (j + 1)).all dash1 = true) := hidP (by rw [HT1.out, HJ.out]; exact decide_eq_true hx)
          obtain ⟨x1, x2⟩ := hx
          clear HF1 HT1
          go_wp2_with fail
          go_roundw
          case rel => exact ⟨j + 1, by omega, by go_num, HR, HE⟩
          case measure => simp only [intOf]; omega
        · have HR : Hid (mayD l ph = false) := hidP (HF1.out (decide_eq_false hx))
          clear HF1 HT1
          rcases (by omega : x < 1 ∨ (1 ≤ x ∧ 8388607 < x)) with x1 | ⟨x1, x2⟩
          all_goals (
            clear hx
            go_wp2_with fail
            go_ret
            exact ⟨congrArg (fun x => Ending.returned (Value.bool x)) HR.out.symm, HE⟩)
      · obtain rfl : j = n := by omega
        have HR : Hid (mayD l ph = true) := hidP (HT.out (by have := HJ.out; rwa [List.take_of_length_le (by rw [HLN.out]; omega)] at this))
        clear HJ HF HT
        go_wp2_with fail
        go_ret
        exact ⟨congrArg (fun x => Ending.returned (Value.bool x)) HR.out.symm, HE⟩
  · have HR : Hid (mayD l ph = false) := hidP (by unfold mayD; rw [HLN.out, decide_eq_false hok]; rfl)
    rcases (by omega : 8 < n ∨ (n ≤ 8 ∧ ph < 0) ∨ (n ≤ 8 ∧ 0 ≤ ph ∧ 8388607 < ph)) with o1 | ⟨o1, o2⟩ | ⟨o1, o2, o3⟩ <;> clear hok
    all_goals (
      go_enter Try.func17, Try.ntmps17
      go_wp2_with fail
      go_ret
      exact ⟨congrArg (fun x => Ending.returned (Value.bool x)) HR.out.symm, Ext.refl _⟩)

set_option maxRecDepth 100000 in
set_option maxHeartbeats 4000000 in
theorem dd_Total (a : Option Addr) (n cap : Nat) (l : List Int) (w : World) (h : Sl w a n cap (izs l)) (hn : n ≤ 8) (hl : ∀ x ∈ l, 1 ≤ x ∧ x ≤ 8388607) :
    Calls Try.prog 18 #[.slice a n cap] w fun e w' => e = .returned (.int .i64 (totD l)) ∧ w' = w := by
  have H := hidP h
  have HLN := hidP h.z_len
  have HB : Hid (∀ j, 0 ≤ sumZ (l.take j) ∧ sumZ (l.take j) ≤ 67108856) := hidP (fun j => by
    have := sumZ_bd (l := l.take j) (fun x hx => hl x (List.mem_of_mem_take hx))
    have h2 := h.z_len
    rw [List.length_take] at this
    omega)
  have HS := hidP (fun (j : Nat) (hj : j < l.length) => sumZ_take hj)
  have HX : Hid (∀ j (hj : j < l.length), 1 ≤ l[j] ∧ l[j] ≤ 8388607) := hidP (fun j hj => hl _ (List.getElem_mem hj))
  have HT : Hid (totD l = if n % 2 = 1 then sumZ l * 2 else sumZ l) := hidP (by unfold totD; rw [HLN.out])
  clear h hl
  go_enter Try.func18, Try.ntmps18
  go_wp2_with fail
  go_loopw [3, 8] (fun sv iv wr => ∃ (j : Nat) (s : Int), j ≤ n ∧ iv = .int .i64 (j : Int) ∧ sv = .int .i64 s ∧ Hid (sumZ (l.take j) = s) ∧ 0 ≤ s ∧ s ≤ 67108856 ∧ wr = w) (fun _ iv _ => n - (intOf iv).toNat)
  case atStart => exact ⟨0, 0, by omega, rfl, rfl, hidP rfl, by omega, by omega, rfl⟩
  case round =>
    obtain ⟨j, s, hj, rfl, rfl, HJ, s1, s2, rfl⟩ := hrel
    by_cases hlt : j < n
    · obtain ⟨g, off, rfl, hc⟩ := H.out.z_at (by omega)
      have hjl : j < l.length := by rw [HLN.out]; exact hlt
      have h1 := hc j hjl
      have hst := HS.out j hjl
      have hbd := HB.out (j + 1)
      have hxb := HX.out j hjl
      rw [hst, HJ.out] at hbd
      rw [HJ.out] at hst
      have HST := hidP hst
      clear hc hst
      generalize l[j] = x at *
      obtain ⟨b1, b2⟩ := hbd
      obtain ⟨b3, b4⟩ := hxb
      go_wp2_with fail
      go_roundw
      case rel => exact ⟨j + 1, _, by omega, by go_num, rfl, HST, b1, b2, by first | trivial | rfl⟩
      case measure => simp only [intOf]; omega
    · obtain rfl : j = n := by omega
      have HR : Hid (sumZ l = s) := hidP (by have := HJ.out; rwa [List.take_of_length_le (by rw [HLN.out]; omega)] at this)
      rw [HR.out] at HT
      clear HJ HB HS HX HR
      have hm : ((j : Int)).tmod 2 = ((j % 2 : Nat) : Int) := by rw [Int.tmod_eq_emod_of_nonneg (by omega)]; omega
      rcases (by omega : j % 2 = 0 ∨ j % 2 = 1) with h2 | h2
      · rw [h2] at hm HT
        have HM := hidP hm
        have hm0 : ((j : Int)).tmod 2 = 0 := hm
        clear hm h2
        go_wp2_with fail
        go_ret
        exact ⟨congrArg (fun x => Ending.returned (Value.int .i64 x)) HT.out.symm, rfl⟩
      · rw [h2] at hm HT
        have hm0 : ((j : Int)).tmod 2 = 1 := hm
        clear hm h2
        go_wp2_with fail
        go_ret
        exact ⟨congrArg (fun x => Ending.returned (Value.int .i64 x)) HT.out.symm, rfl⟩

set_option maxRecDepth 100000 in
set_option maxHeartbeats 4000000 in
theorem dd_fits (a : Option Addr) (n cap : Nat) (l : List (Int × Int)) (c : Bool) (w : World) (h : SlP w a n cap l) :
    Calls Try.prog 25 #[.agg #[.slice a n cap, .bool c]] w fun e w' => e = .returned (.bool (fitL l)) ∧ Ext w w' := by
  have H := hidP h
  have HLN := hidP h.len
  have hcap : n ≤ maxLen := Nat.le_trans h.2.1 h.2.2.1
  unfold maxLen at hcap
  have HF := hidP (fun (j : Nat) (h : j < l.length) => fitL_no h); have HT := hidP (fun (j : Nat) (h : j < l.length) => fitL_take h)
  have HE0 : Hid (fitL (l.take 0) = true) := hidP (by simp [fitL])
  clear h
  go_enter Try.func25, Try.ntmps25
  go_wp2_with fail
  go_loopw [8] (fun iv wr => ∃ j : Nat, j ≤ n ∧ iv = .int .i64 (j : Int) ∧ Hid (fitL (l.take j) = true) ∧ Ext w wr) (fun iv _ => n - (intOf iv).toNat)
  case atStart => exact ⟨0, by omega, rfl, HE0, (Ext.refl _).alloc _⟩
  case round =>
    clear HE0
    obtain ⟨j, hj, rfl, HJ, HE⟩ := hrel
    by_cases hlt : j < n
    · obtain ⟨g, off, rfl, hc⟩ := (H.out.ext HE).at (by omega)
      have hjl : j < l.length := by rw [HLN.out]; exact hlt
      obtain ⟨h1, h2⟩ := hc j hjl
      have HF1 := hidP (HF.out j hjl)
      have HT1 := hidP (HT.out j hjl HJ.out)
      have hfit := fun u => a_Fits l[j].1 l[j].2 u
      clear hc
      generalize l[j].1 = px at *
      generalize l[j].2 = py at *
      cases hfp : fitP px py
      · have HR := hidP (HF1.out hfp)
        rw [hfp] at hfit
        have HFIT := hidP hfit
        clear hfit hfp HF1 HT1
        go_wp2_with fail
        refine (HFIT.out _).mono ?_
        rintro e u1 ⟨rfl, hx⟩
        have HX := HE.trans (((Ext.refl _).alloc _).trans hx)
        clear hx
        go_wp2_with fail
        go_ret
        exact ⟨congrArg (fun x => Ending.returned (Value.bool x)) HR.out.symm, HX⟩
      · have HR := hidP (HT1.out hfp)
        rw [hfp] at hfit
        have HFIT := hidP hfit
        clear hfit hfp HF1 HT1
        go_wp2_with fail
        refine (HFIT.out _).mono ?_
        rintro e u1 ⟨rfl, hx⟩
        have HX := HE.trans (((Ext.refl _).alloc _).trans hx)
        clear hx
        go_wp2_with fail
        go_roundw
        case rel => exact ⟨j + 1, by omega, by go_num, HR, HX⟩
        case measure => simp only [intOf]; omega
    · obtain rfl : j = n := by omega
      have HR : Hid (fitL l = true) := hidP (by have := HJ.out; rwa [List.take_of_length_le (by rw [HLN.out]; omega)] at this)
      clear HJ HF HT
      go_wp2_with fail
      go_ret
      exact ⟨congrArg (fun x => Ending.returned (Value.bool x)) HR.out.symm, HE⟩

end Go.Proofs.Ytlhaepcnhkaclaa
