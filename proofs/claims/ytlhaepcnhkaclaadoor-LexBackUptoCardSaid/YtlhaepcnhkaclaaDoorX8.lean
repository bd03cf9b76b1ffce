/- A line's words: the document's. -/
import Derived.Test.YtlhaepcnhkaclaaDoorX7
namespace Go.Proofs.YtlhaepcnhkaclaaDoor
set_option linter.unusedVariables false
set_option linter.unusedSimpArgs false
open Go Go.RowKit

theorem natsOf_extract (s : ByteArray) (a b : Nat) : natsOf (s.extract a b) = ((natsOf s).drop a).take (b - a) := by
  unfold natsOf
  rw [Lib.extract_data]
  simp [List.map_take, List.map_drop]
/-- Where the document's cutting stands. -/
def CutAt (L : List Nat) (n i fr : Nat) (done : List (List Nat)) : Prop :=
  (fr ≤ i ∧ i ≤ n ∧ splitL 32 L = done ++ splitL 32 (L.drop fr) ∧ ¬ 32 ∈ (L.drop fr).take (i - fr)) ∨ (i = n + 1 ∧ splitL 32 L = done)
theorem cut_go {L : List Nat} {n i fr : Nat} {done : List (List Nat)} (hn : L.length = n) (h : CutAt L n i fr done) (hi : i < n) (hc : L.getD i 0 ≠ 32) : CutAt L n (i + 1) fr done := by
  rcases h with ⟨h1, h2, h3, h4⟩ | ⟨h1, h2⟩
  · refine .inl ⟨by omega, by omega, h3, ?_⟩
    rw [show i + 1 - fr = (i - fr) + 1 by omega, List.take_succ_eq_append_getElem (by rw [List.length_drop]; omega)]
    rw [List.mem_append, not_or]
    refine ⟨h4, ?_⟩
    rw [List.mem_singleton, List.getElem_drop]
    intro e
    apply hc
    rw [List.getD_eq_getElem?_getD, List.getElem?_eq_getElem (by omega)]
    have : fr + (i - fr) = i := by omega
    simp only [this] at e
    simp [← e]
  · omega
theorem cut_piece {L : List Nat} {n i fr : Nat} {done : List (List Nat)} (hn : L.length = n) (h : CutAt L n i fr done) (hi : i ≤ n) (hc : i = n ∨ L.getD i 0 = 32) :
    fr ≤ i ∧ CutAt L n (i + 1) (i + 1) (done ++ [(L.drop fr).take (i - fr)]) ∧ (L.drop fr).take (i - fr) ∈ splitL 32 L ∧ done.length + 1 ≤ (splitL 32 L).length := by
  rcases h with ⟨h1, h2, h3, h4⟩ | ⟨h1, h2⟩
  · have hsp : splitL 32 (L.drop fr) = (L.drop fr).take (i - fr) :: (if i = n then [] else splitL 32 (L.drop (i + 1))) := by
      by_cases he : i = n
      · rw [if_pos he]
        have e : (L.drop fr).take (i - fr) = L.drop fr := List.take_of_length_le (by rw [List.length_drop]; omega)
        rw [e] at h4 ⊢
        exact splitL_no h4
      · rw [if_neg he]
        have hc' : L.getD i 0 = 32 := by rcases hc with h | h; exact absurd h he; exact h
        have hlt : i < L.length := by omega
        have e : L.drop fr = (L.drop fr).take (i - fr) ++ 32 :: L.drop (i + 1) := by
          conv => lhs; rw [← List.take_append_drop (i - fr) (L.drop fr)]
          rw [List.drop_drop, show fr + (i - fr) = i by omega, List.drop_eq_getElem_cons hlt]
          have : L[i] = 32 := by rw [← hc', List.getD_eq_getElem?_getD, List.getElem?_eq_getElem hlt]; rfl
          rw [this]
        conv => lhs; rw [e]
        exact splitL_at _ h4
    refine ⟨h1, ?_, ?_, ?_⟩
    · by_cases he : i = n
      · exact .inr ⟨by omega, by rw [h3, hsp, if_pos he]⟩
      · refine .inl ⟨Nat.le_refl _, by omega, ?_, by simp⟩
        rw [h3, hsp, if_neg he, List.append_assoc]
        rfl
    · rw [h3, hsp]; simp
    · rw [h3, hsp]; simp
  · omega
theorem words_none {L p : List Nat} (hp : p ∈ splitL 32 L) (h : wordL p = false) : wordsL L = none := by
  unfold wordsL
  rw [if_neg]
  intro hh
  rw [List.all_eq_true] at hh
  have := hh p hp
  rw [h] at this
  cases this

set_option maxRecDepth 100000 in
set_option maxHeartbeats 8000000 in
theorem d_words (s : ByteArray) (w : World) (hs : s.size ≤ 4096) : Calls Tryd.prog 17 #[.string s] w (RetWs w (wordsL (natsOf s))) := by
  have HX := hidP (natsOf_extract s)
  have HAT := hidP (natsOf_at s)
  have hln := natsOf_len s
  have HLN := hidP hln
  have HBND : Hid ((splitL 32 (natsOf s)).length ≤ 4097) := hidP (by
    have h1 := splitL_len 32 (natsOf s)
    have h3 : (natsOf s).count 32 ≤ (natsOf s).length := List.count_le_length
    omega)
  have HNO := hidP (fun (p : List Nat) (h1 : p ∈ splitL 32 (natsOf s)) (h2 : wordL p = false) => words_none h1 h2)
  have HYES := hidP (fun (d : List (List Nat)) (h1 : splitL 32 (natsOf s) = d) (h2 : d.all wordL = true) => (by unfold wordsL; rw [h1, if_pos h2] : wordsL (natsOf s) = some d))
  have HGO := hidP (fun (i fr : Nat) (d : List (List Nat)) (h : CutAt (natsOf s) s.size i fr d) (hi : i < s.size) (hc : (natsOf s).getD i 0 ≠ 32) => cut_go hln h hi hc)
  have HPC := hidP (fun (i fr : Nat) (d : List (List Nat)) (h : CutAt (natsOf s) s.size i fr d) (hi : i ≤ s.size) (hc : i = s.size ∨ (natsOf s).getD i 0 = 32) => cut_piece hln h hi hc)
  have H0 : CutAt (natsOf s) s.size 0 0 [] := .inl ⟨Nat.le_refl _, Nat.zero_le _, by simp, by simp⟩
  have HEND : Hid (∀ fr d, CutAt (natsOf s) s.size (s.size + 1) fr d → splitL 32 (natsOf s) = d) := hidP (fun fr d h => by
    rcases h with ⟨_, h2, _⟩ | ⟨_, h2⟩
    · omega
    · exact h2)
  have HLE : Hid (∀ i fr d, CutAt (natsOf s) s.size i fr d → i ≤ s.size + 1) := hidP (fun i fr d h => by
    rcases h with ⟨_, h2, _⟩ | ⟨h1, _⟩ <;> omega)
  clear hln
  generalize natsOf s = L at *
  generalize wordsL L = rr at *
  go_enter Tryd.func17, Tryd.ntmps17
  go_wp2_with fail
  go_loopw [4, 5, 6] (fun v fv iv wr => ∃ (i fr : Nat) (d : List (List Nat)), fv = .int .i64 (fr : Int) ∧ iv = .int .i64 (i : Int) ∧ wr.ownsRow w.heap.size 9 1 v d.length (strN d) ∧ Hid (d.all wordL = true) ∧ CutAt L s.size i fr d ∧ Ext w wr) (fun _ _ iv _ => s.size + 1 - (intOf iv).toNat)
  case atStart => exact ⟨0, 0, [], rfl, rfl, World.ownsRow_nil _ _ _ _, hidP rfl, H0, Ext.refl _⟩
  case round =>
    clear H0
    obtain ⟨i, fr, d, rfl, rfl, hown, HA, hcut, HE⟩ := hrel
    have hi1 := HLE.out _ _ _ hcut
    by_cases hlt : i ≤ s.size
    · have hcase : (i < s.size ∧ L.getD i 0 ≠ 32) ∨ (i = s.size ∨ (i < s.size ∧ L.getD i 0 = 32)) := by
        by_cases h : i < s.size
        · by_cases h2 : L.getD i 0 = 32
          · exact .inr (.inr ⟨h, h2⟩)
          · exact .inl ⟨h, h2⟩
        · exact .inr (.inl (by omega))
      rcases hcase with ⟨h1, h2⟩ | hcase
      · have hcut2 := HGO.out _ _ _ hcut h1 h2
        rw [HAT.out i h1] at h2
        have hne : (((s[i].toNat : Nat) : Int) != 32) = true := by simp; omega
        have HC2 := hidP hcut2
        clear hcut hcut2 h2
        go_wp2_with fail
        go_roundw
        case rel => exact ⟨i + 1, fr, d, rfl, by go_num, hown, HA, HC2.out, HE⟩
        case measure => simp only [intOf]; omega
      · obtain ⟨hfr, hcut2, hin, hdl⟩ := HPC.out _ _ _ hcut hlt (by rcases hcase with h | h; exact .inl h; exact .inr h.2)
        have hb := HBND.out
        have hW := fun u => d_Word (s.extract fr i) u (by
          have := Lib.extract_data s fr i
          have h2 : (s.extract fr i).size ≤ s.size := by
            show (s.extract fr i).data.size ≤ s.data.size
            have := congrArg List.length (Lib.extract_data s fr i)
            simp at this
            simp
            omega
          omega)
        have hxx := HX.out fr i
        have hstr : (.string (s.extract fr i) : Value) = .string (bytesOf ((L.drop fr).take (i - fr))) := by rw [← hxx, bytesOf_natsOf]
        rw [hxx] at hW
        have HSTR := hidP hstr
        have HW := hidP hW
        have HC2 := hidP hcut2
        have hdl' : d.length + 1 ≤ 4097 := by omega
        generalize (L.drop fr).take (i - fr) = p at *
        have HIN := hidP hin
        clear hcut hcut2 hin hdl hb hW hxx hstr
        cases hw : wordL p
        · have HR := hidP (HNO.out _ HIN.out hw)
          rw [hw] at HW
          clear hw
          rcases hcase with h1 | ⟨h1, h2⟩
          · subst h1
            have hnl : ¬ (s.size : Int) < (s.size : Int) := by omega
            go_wp2_with fail
            refine (HW.out _).mono ?_
            rintro e u2 ⟨rfl, rfl⟩
            go_wp2_with fail
            go_ret2
            rw [HR.out]
            exact ⟨rfl, HE⟩
          · rw [HAT.out i h1] at h2
            have hne : (((s[i].toNat : Nat) : Int) != 32) = false := by simp; omega
            clear h2
            go_wp2_with fail
            refine (HW.out _).mono ?_
            rintro e u2 ⟨rfl, rfl⟩
            go_wp2_with fail
            go_ret2
            rw [HR.out]
            exact ⟨rfl, HE⟩
        · have HA2 : Hid ((d ++ [p]).all wordL = true) := hidP (by rw [List.all_append, HA.out]; simp [hw])
          rw [hw] at HW
          clear hw HA
          rcases hcase with h1 | ⟨h1, h2⟩
          · subst h1
            have hnl : ¬ (s.size : Int) < (s.size : Int) := by omega
            go_wp2_with fail
            refine (HW.out _).mono ?_
            rintro e u2 ⟨rfl, rfl⟩
            go_wp2_with (at_builtin; refine wpList_appW1 T_str rfl _ _ rfl hown HE _ rfl rfl rfl (by omega) (by omega) ?_; intro v' w' hown' he')
            go_roundw
            case rel => exact ⟨s.size + 1, s.size + 1, d ++ [p], by go_num, by go_num, by rw [strN_snoc, ← HSTR.out, show (d ++ [p]).length = d.length + 1 by simp]; exact hown', HA2, HC2.out, he'⟩
            case measure => simp only [intOf]; omega
          · rw [HAT.out i h1] at h2
            have hne : (((s[i].toNat : Nat) : Int) != 32) = false := by simp; omega
            clear h2
            go_wp2_with fail
            refine (HW.out _).mono ?_
            rintro e u2 ⟨rfl, rfl⟩
            go_wp2_with (at_builtin; refine wpList_appW1 T_str rfl _ _ rfl hown HE _ rfl rfl rfl (by omega) (by omega) ?_; intro v' w' hown' he')
            go_roundw
            case rel => exact ⟨i + 1, i + 1, d ++ [p], by go_num, by go_num, by rw [strN_snoc, ← HSTR.out, show (d ++ [p]).length = d.length + 1 by simp]; exact hown', HA2, HC2.out, he'⟩
            case measure => simp only [intOf]; omega
    · obtain rfl : i = s.size + 1 := by omega
      have HR := hidP (HYES.out d (HEND.out _ _ hcut) HA.out)
      have hown' := owns_base hown (Nat.zero_le _)
      obtain ⟨a5, cap5, rfl, -⟩ := owns_slice hown
      clear hcut
      go_wp2_with fail
      go_ret2
      rw [HR.out]
      exact ⟨_, rfl, hown', HE⟩

end Go.Proofs.YtlhaepcnhkaclaaDoor
