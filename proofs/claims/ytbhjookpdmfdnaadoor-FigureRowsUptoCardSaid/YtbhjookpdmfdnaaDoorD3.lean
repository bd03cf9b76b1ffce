/- Words as numbers: the program's plain, down and Read. -/
import Derived.Test.YtbhjookpdmfdnaaDoorD1
import Derived.Laws.RangeAny
import Derived.Lib.Strings
namespace Go.Proofs.YtbhjookpdmfdnaaDoor
set_option linter.unusedVariables false
open Go Go.RowKit

/-- Digits, as a number without a sign has them. -/
def PlainL (l : List Nat) : Prop := l ≠ [] ∧ (l.getD 0 0 = 48 → l.length ≤ 1) ∧ ∀ c ∈ l, 48 ≤ c ∧ c ≤ 57
instance (l : List Nat) : Decidable (PlainL l) := by unfold PlainL; infer_instance

theorem size_zero {s : ByteArray} (h : s.size = 0) : s = ⟨#[]⟩ := by
  obtain ⟨⟨l⟩⟩ := s
  have : l.length = 0 := h
  rw [List.eq_nil_of_length_eq_zero this]
theorem toList_data (s : ByteArray) : s.toList = s.data.toList := ByteArray.toList_eq s

set_option maxRecDepth 100000 in
set_option maxHeartbeats 1000000 in
theorem f_plain_any (s : ByteArray) (w : World) :
    Calls Tryd.prog 25 #[.string s] w fun e w' => e = .returned (.bool (decide (PlainL (natsOf s)))) ∧ Ext w w' := by
  have hlen := natsOf_len s
  have hat := natsOf_at s
  by_cases h0 : s.size = 0
  · obtain rfl := size_zero h0
    go_enter Tryd.func25, Tryd.ntmps25
    go_wp2
    go_ret
    exact ⟨rfl, Ext.refl _⟩
  · have h00 : 0 < s.size := by omega
    have hne : s.toList.isEmpty = false := by
      rw [toList_data]
      cases hd : s.data.toList with
      | nil => have : s.data.toList.length = 0 := by rw [hd]; rfl
               have h2 : s.size = s.data.toList.length := rfl
               omega
      | cons x r => rfl
    have ha0 := hat 0 h00
    by_cases hz : s[0].toNat = 48 ∧ 1 < s.size
    · have HN : Hid (¬ PlainL (natsOf s)) := hidP (fun h => by have := h.2.1 (by rw [ha0]; exact hz.1); omega)
      obtain ⟨z1, z2⟩ := hz
      have z3 : ((s[0].toNat : Int) == 48) = true := by simp; omega
      go_enter Tryd.func25, Tryd.ntmps25
      go_wp2
      go_ret
      exact ⟨by rw [decide_eq_false HN.out]; rfl, Ext.refl _⟩
    · have HZ : Hid ((natsOf s).getD 0 0 = 48 → (natsOf s).length ≤ 1) := hidP (fun h => by rw [ha0] at h; have : ¬ 1 < s.size := fun h2 => hz ⟨h, h2⟩; omega)
      have HAT := hidP hat; clear hat
      have HLEN := hidP hlen; clear hlen
      clear ha0
      have HE : Ext w (w.iter s 0) := (Ext.refl _).alloc _
      go_enter Tryd.func25, Tryd.ntmps25
      go_wp2
      all_goals (
        go_loopw [4] (fun c w' => ∃ pos : Nat, w' = w.iter s pos ∧ pos ≤ s.size ∧ ∀ i, i < pos → 48 ≤ (natsOf s).getD i 0 ∧ (natsOf s).getD i 0 ≤ 57) (fun _ w' => s.size - w'.iterPos w.heap.size)
        case atStart => exact ⟨0, rfl, by omega, fun i hi => by omega⟩
        case round =>
          obtain ⟨pos, rfl, hp, hall⟩ := hrel
          have HALL := hidP hall; clear hall
          by_cases hlt : pos < s.size
          · have hc := HAT.out pos hlt
            have HC := hidP hc; clear hc
            by_cases ha : s[pos].toNat < 128
            · have hnx : ∀ ty, (Instr.next (.pointer (some ⟨w.heap.size, 0, none⟩)) true ty).run Tryd.prog (w.iter s pos) = _ := fun ty => run_next_ascii w s pos ty hlt ha
              generalize s[pos].toNat = c at *
              rcases (by omega : c < 48 ∨ 57 < c ∨ (48 ≤ c ∧ c ≤ 57)) with h | h | ⟨h, h'⟩
              · have HN : Hid (¬ PlainL (natsOf s)) := hidP (fun hh => by
                  have := hh.2.2 c (by rw [← HC.out, List.getD_eq_getElem?_getD, List.getElem?_eq_getElem (by rw [HLEN.out]; exact hlt)]; exact List.getElem_mem _)
                  omega)
                go_wp2
                go_ret
                exact ⟨by rw [decide_eq_false HN.out]; rfl, (Ext.refl _).alloc _⟩
              · have HN : Hid (¬ PlainL (natsOf s)) := hidP (fun hh => by
                  have := hh.2.2 c (by rw [← HC.out, List.getD_eq_getElem?_getD, List.getElem?_eq_getElem (by rw [HLEN.out]; exact hlt)]; exact List.getElem_mem _)
                  omega)
                go_wp2
                go_ret
                exact ⟨by rw [decide_eq_false HN.out]; rfl, (Ext.refl _).alloc _⟩
              · go_wp2
                go_roundw
                case rel =>
                  refine ⟨pos + 1, rfl, by omega, fun i hi => ?_⟩
                  by_cases hip : i = pos
                  · subst hip; rw [HC.out]; omega
                  · exact HALL.out i (by omega)
                case measure =>
                  simp
                  omega
            · have hd := (decode_high s pos hlt (by omega)).1
              have hnx : ∀ ty, (Instr.next (.pointer (some ⟨w.heap.size, 0, none⟩)) true ty).run Tryd.prog (w.iter s pos) = _ := fun ty => run_next_any w s pos ty hlt
              generalize Utf8.decode s pos = dd at *
              have HN : Hid (¬ PlainL (natsOf s)) := hidP (fun hh => by
                have := hh.2.2 s[pos].toNat (by rw [← HC.out, List.getD_eq_getElem?_getD, List.getElem?_eq_getElem (by rw [HLEN.out]; exact hlt)]; exact List.getElem_mem _)
                omega)
              clear HC ha
              go_wp2
              go_ret
              exact ⟨by rw [decide_eq_false HN.out]; rfl, (Ext.refl _).alloc _⟩
          · have hnx : ∀ ty, (Instr.next (.pointer (some ⟨w.heap.size, 0, none⟩)) true ty).run Tryd.prog (w.iter s pos) = _ := fun ty => run_next_end w s pos ty hlt
            have HN : Hid (PlainL (natsOf s)) := hidP (by
              refine ⟨fun h => by have := HLEN.out; rw [h] at this; simp at this; omega, HZ.out, fun c hc => ?_⟩
              obtain ⟨i, hi, rfl⟩ := List.mem_iff_getElem.1 hc
              have := HALL.out i (by rw [HLEN.out] at hi; omega)
              rw [List.getD_eq_getElem?_getD, List.getElem?_eq_getElem hi] at this
              exact this)
            go_wp2
            go_ret
            exact ⟨by rw [decide_eq_true HN.out]; rfl, (Ext.refl _).alloc _⟩)

/-- The number of digits. -/
def dval (l : List Nat) : Nat := l.foldl (fun a c => 10 * a + (c - 48)) 0
theorem dval_snoc (l : List Nat) (c : Nat) : dval (l ++ [c]) = 10 * dval l + (c - 48) := by simp [dval]
theorem dval_ge (l : List Nat) : ∀ a, a ≤ l.foldl (fun a c => 10 * a + (c - 48)) a := by
  induction l with
  | nil => intro a; exact Nat.le_refl _
  | cons c r ih => intro a; exact Nat.le_trans (by omega) (ih (10 * a + (c - 48)))
theorem dval_take (l : List Nat) (k : Nat) : dval (l.take k) ≤ dval l := by
  have h : l = l.take k ++ l.drop k := (List.take_append_drop k l).symm
  unfold dval
  conv => rhs; rw [h, List.foldl_append]
  exact dval_ge _ _
theorem dval_next {l : List Nat} {k c : Nat} (hk : k < l.length) (hc : l.getD k 0 = c) : dval (l.take (k + 1)) = 10 * dval (l.take k) + (c - 48) := by
  rw [List.take_succ_eq_append_getElem hk, dval_snoc]
  rw [List.getD_eq_getElem?_getD, List.getElem?_eq_getElem hk] at hc
  simp only [Option.getD_some] at hc
  rw [hc]

/-- What down answers. -/
def downR (v : Nat) : Value := if v ≤ 9223372036854775808 then .tuple #[.int .i64 (-(v : Int)), .bool true] else .tuple #[.int .i64 0, .bool false]

set_option maxRecDepth 100000 in
set_option maxHeartbeats 1000000 in
theorem f_down_any (s : ByteArray) (w : World) (hn : s.size ≤ 9223372036854775807) (hd : ∀ c ∈ natsOf s, 48 ≤ c ∧ c ≤ 57) :
    Calls Tryd.prog 26 #[.string s] w fun e w' => e = .returned (downR (dval (natsOf s))) ∧ w = w' := by
  have hlen := natsOf_len s
  have hat := natsOf_at s
  have HAT := hidP hat; clear hat
  have HLEN := hidP hlen; clear hlen
  have HD := hidP hd; clear hd
  go_enter Tryd.func26, Tryd.ntmps26
  go_wp2
  go_loop [4, 9] (fun v i => ∃ k v' : Nat, k ≤ s.size ∧ i = .int .i64 (k : Int) ∧ v = .int .i64 (-(v' : Int)) ∧ dval ((natsOf s).take k) = v' ∧ v' ≤ 9223372036854775808) (fun _ i => s.size - (intOf i).toNat)
  case atStart => exact ⟨0, 0, by omega, rfl, rfl, by simp [dval], by omega⟩
  case round =>
    obtain ⟨k, v, hk, rfl, rfl, hv, hvl⟩ := hrel
    have HV := hidP hv; clear hv
    by_cases h0 : k < s.size
    · have hc := HAT.out k h0
      have hcd : 48 ≤ s[k].toNat ∧ s[k].toNat ≤ 57 := by
        rw [← hc, List.getD_eq_getElem?_getD, List.getElem?_eq_getElem (by rw [HLEN.out]; exact h0)]
        exact HD.out _ (List.getElem_mem _)
      have HN := hidP (dval_next (by rw [HLEN.out]; exact h0) hc)
      have HT := hidP (dval_take (natsOf s) (k + 1))
      clear hc
      obtain ⟨h48, h57⟩ := hcd
      rcases (by omega : 10 * v + (s[k].toNat - 48) ≤ 9223372036854775808 ∨ 9223372036854775808 < 10 * v + (s[k].toNat - 48)) with h | h
      · rcases (by omega : v < 922337203685477580 ∨ (v = 922337203685477580 ∧ s[k].toNat ≤ 56)) with h1 | ⟨rfl, h1⟩
        · have hn1 : ¬ (-(v : Int) = -922337203685477580) := by omega
          go_wp2
          go_round
          case rel => exact ⟨k + 1, 10 * v + (s[k].toNat - 48), by omega, by go_num, by go_num, by rw [HN.out, HV.out], by omega⟩
          case measure => simp [intOf]; omega
        · go_wp2
          go_round
          case rel => exact ⟨k + 1, 10 * 922337203685477580 + (s[k].toNat - 48), by omega, by go_num, by go_num, by rw [HN.out, HV.out], by omega⟩
          case measure => simp [intOf]; omega
      · have HR : Hid (downR (dval (natsOf s)) = .tuple #[.int .i64 0, .bool false]) := hidP (by
          have h1 := HN.out
          have h2 := HT.out
          rw [HV.out] at h1
          unfold downR
          rw [if_neg (by omega)])
        rcases (by omega : 922337203685477580 < v ∨ (v = 922337203685477580 ∧ 56 < s[k].toNat)) with h1 | ⟨rfl, h1⟩
        · go_wp2
          go_ret2
          exact ⟨by rw [HR.out]; rfl, rfl⟩
        · go_wp2
          go_ret2
          exact ⟨by rw [HR.out]; rfl, rfl⟩
    · have HR : Hid (downR (dval (natsOf s)) = .tuple #[.int .i64 (-(v : Int)), .bool true]) := hidP (by
        have h1 := HV.out
        rw [List.take_of_length_le (by rw [HLEN.out]; omega)] at h1
        unfold downR
        rw [h1, if_pos hvl])
      go_wp2
      go_ret2
      exact ⟨by rw [HR.out]; rfl, rfl⟩

/-- What Read answers. -/
def readL (l : List Nat) (lo hi : Int) : Int × Nat :=
  let neg := l.getD 0 0 = 45
  let ds := if neg then l.drop 1 else l
  if ¬ PlainL ds ∨ (neg ∧ ds = [48]) then (0, 3)
  else
    let n : Int := if neg then -(dval ds : Int) else dval ds
    if (if neg then dval ds ≤ 9223372036854775808 else dval ds < 9223372036854775808) ∧ lo ≤ n ∧ n ≤ hi then (n, 0) else (0, 4)

theorem natsOf_drop1 (s : ByteArray) : natsOf (s.extract 1 s.size) = (natsOf s).drop 1 := by
  unfold natsOf
  rw [Lib.extract_data]
  have : (s.data.toList.drop 1).length = s.size - 1 := by simp
  rw [List.take_of_length_le (by omega), List.map_drop]
theorem eq_str {s : ByteArray} {l : List UInt8} : (s.toList == l) = decide (natsOf s = l.map UInt8.toNat) := by
  rw [toList_data]
  unfold natsOf
  by_cases h : s.data.toList = l
  · rw [h]; simp
  · have : ¬ s.data.toList.map UInt8.toNat = l.map UInt8.toNat := fun hh => h (List.map_inj_right (fun a b hab => UInt8.toNat_inj.1 hab) |>.1 hh)
    rw [decide_eq_false this]
    simpa using h

set_option maxRecDepth 100000 in
set_option maxHeartbeats 1000000 in
theorem f_Read_any (s : ByteArray) (lo hi : Int) (w : World) (hn : s.size ≤ 9223372036854775807) :
    Calls Tryd.prog 7 #[.string s, .int .i64 lo, .int .i64 hi] w fun e w' => e = .returned (.tuple #[.int .i64 (readL (natsOf s) lo hi).1, .int .i64 ((readL (natsOf s) lo hi).2 : Nat)]) ∧ Ext w w' := by
  have hlen := natsOf_len s
  have hat := natsOf_at s
  by_cases h0 : s.size = 0
  · obtain rfl := size_zero h0
    have HR : Hid (readL (natsOf ⟨#[]⟩) lo hi = (0, 3)) := hidP (by
      have hN : natsOf ⟨#[]⟩ = [] := rfl
      unfold readL
      rw [hN]
      simp [PlainL])
    go_enter Tryd.func7, Tryd.ntmps7
    go_wp2_with fail
    refine (f_plain_any _ _).mono ?_
    rw [show decide (PlainL (natsOf ⟨#[]⟩)) = false by rfl]
    rintro e w1 ⟨rfl, he1⟩
    go_wp2_with fail
    go_ret2
    rw [HR.out]
    exact ⟨rfl, he1⟩
  · have h00 : 0 < s.size := by omega
    have hne : s.toList.isEmpty = false := by
      rw [toList_data]
      cases hd : s.data.toList with
      | nil => have : s.data.toList.length = 0 := by rw [hd]; rfl
               have h2 : s.size = s.data.toList.length := rfl
               omega
      | cons x r => rfl
    have ha0 := hat 0 h00
    by_cases hz : s[0].toNat = 45
    · have z3 : ((s[0].toNat : Int) == 45) = true := by simp; omega
      have hds := natsOf_drop1 s
      have hs1 : (s.extract 1 s.size).size ≤ 9223372036854775807 := by rw [← natsOf_len, hds]; simp; omega
      generalize hs1d : s.extract 1 s.size = s1 at *
      have HS1 := hidP hs1d; clear hs1d
      have HRL : Hid (readL (natsOf s) lo hi = if ¬ PlainL (natsOf s1) ∨ natsOf s1 = [48] then (0, 3) else if dval (natsOf s1) ≤ 9223372036854775808 ∧ lo ≤ -(dval (natsOf s1) : Int) ∧ -(dval (natsOf s1) : Int) ≤ hi then (-(dval (natsOf s1) : Int), 0) else (0, 4)) := hidP (by
        unfold readL
        rw [ha0, hz, hds]
        simp)
      generalize readL (natsOf s) lo hi = RR at *
      clear hat hlen ha0
      by_cases hp : PlainL (natsOf s1)
      · have HP := hidP hp; clear hp
        by_cases h48 : natsOf s1 = [48]
        · have HR : Hid (RR = (0, 3)) := hidP (by rw [HRL.out, if_pos (.inr h48)])
          have hq : (s1.toList == [48]) = true := by rw [eq_str]; simpa using h48
          clear h48
          go_enter Tryd.func7, Tryd.ntmps7
          go_wp2_with fail
          rw [HS1.out]
          refine (f_plain_any _ _).mono ?_
          rw [decide_eq_true HP.out]
          rintro e w1 ⟨rfl, he1⟩
          go_wp2_with fail
          go_ret2
          rw [HR.out]
          exact ⟨rfl, he1⟩
        have hq : (s1.toList == [48]) = false := by rw [eq_str]; simpa using h48
        have H48 := hidP h48; clear h48
        · have hdd := HP.out.2.2
          have HDD := hidP hdd; clear hdd
          go_enter Tryd.func7, Tryd.ntmps7
          go_wp2_with fail
          rw [HS1.out]
          refine (f_plain_any _ _).mono ?_
          rw [decide_eq_true HP.out]
          rintro e w1 ⟨rfl, he1⟩
          go_wp2_with fail
          refine (f_down_any _ _ hs1 HDD.out).mono ?_
          rintro e w2 ⟨rfl, rfl⟩
          generalize dval (natsOf s1) = v at *
          by_cases hv : v ≤ 9223372036854775808
          · have hdr : downR v = .tuple #[.int .i64 (-(v : Int)), .bool true] := if_pos hv
            rw [hdr]
            clear hdr
            by_cases hb : lo ≤ -(v : Int) ∧ -(v : Int) ≤ hi
            · have HR : Hid (RR = (-(v : Int), 0)) := hidP (by rw [HRL.out, if_neg (fun h => h.elim (fun h => h HP.out) H48.out), if_pos ⟨by omega, hb⟩])
              obtain ⟨hb1, hb2⟩ := hb
              go_wp2_with fail
              go_ret2
              rw [HR.out]
              exact ⟨rfl, he1⟩
            · have HR : Hid (RR = (0, 4)) := hidP (by rw [HRL.out, if_neg (fun h => h.elim (fun h => h HP.out) H48.out), if_neg (fun h => hb h.2)])
              rcases (by omega : -(v : Int) < lo ∨ (lo ≤ -(v : Int) ∧ hi < -(v : Int))) with hc | ⟨hc, hc'⟩
              · go_wp2_with fail
                go_ret2
                rw [HR.out]
                exact ⟨rfl, he1⟩
              · go_wp2_with fail
                go_ret2
                rw [HR.out]
                exact ⟨rfl, he1⟩
          · have hdr : downR v = .tuple #[.int .i64 0, .bool false] := if_neg hv
            rw [hdr]
            clear hdr
            have HR : Hid (RR = (0, 4)) := hidP (by rw [HRL.out]; rw [if_neg (fun h => h.elim (fun h => h HP.out) H48.out), if_neg (fun h => by omega)])
            go_wp2_with fail
            go_ret2
            rw [HR.out]
            exact ⟨rfl, he1⟩
      · have HP := hidP hp; clear hp
        have HR : Hid (RR = (0, 3)) := hidP (by rw [HRL.out, if_pos (.inl HP.out)])
        go_enter Tryd.func7, Tryd.ntmps7
        go_wp2_with fail
        rw [HS1.out]
        refine (f_plain_any _ _).mono ?_
        rw [decide_eq_false HP.out]
        rintro e w1 ⟨rfl, he1⟩
        go_wp2_with fail
        go_ret2
        rw [HR.out]
        exact ⟨rfl, he1⟩
    · have z3 : ((s[0].toNat : Int) == 45) = false := by simp; omega
      have hs1 := hn
      have HRL : Hid (readL (natsOf s) lo hi = if ¬ PlainL (natsOf s) then (0, 3) else if dval (natsOf s) < 9223372036854775808 ∧ lo ≤ (dval (natsOf s) : Int) ∧ (dval (natsOf s) : Int) ≤ hi then ((dval (natsOf s) : Int), 0) else (0, 4)) := hidP (by
        unfold readL
        rw [ha0]
        simp [hz])
      generalize readL (natsOf s) lo hi = RR at *
      clear hat hlen ha0
      by_cases hp : PlainL (natsOf s)
      · have HP := hidP hp; clear hp
        · have hdd := HP.out.2.2
          have HDD := hidP hdd; clear hdd
          go_enter Tryd.func7, Tryd.ntmps7
          go_wp2_with fail
          refine (f_plain_any _ _).mono ?_
          rw [decide_eq_true HP.out]
          rintro e w1 ⟨rfl, he1⟩
          go_wp2_with fail
          refine (f_down_any _ _ hs1 HDD.out).mono ?_
          rintro e w2 ⟨rfl, rfl⟩
          generalize dval (natsOf s) = v at *
          by_cases hv : v ≤ 9223372036854775808
          · have hdr : downR v = .tuple #[.int .i64 (-(v : Int)), .bool true] := if_pos hv
            rw [hdr]
            clear hdr
            by_cases hv2 : v = 9223372036854775808
            · subst hv2
              have HR : Hid (RR = (0, 4)) := hidP (by rw [HRL.out, if_neg (fun h => h HP.out), if_neg (fun h => by omega)])
              go_wp2_with fail
              go_ret2
              rw [HR.out]
              exact ⟨rfl, he1⟩
            have hv3 : ¬ (-(v : Int) = -9223372036854775808) := by omega
            by_cases hb : lo ≤ (v : Int) ∧ (v : Int) ≤ hi
            · have HR : Hid (RR = ((v : Int), 0)) := hidP (by rw [HRL.out, if_neg (fun h => h HP.out), if_pos ⟨by omega, hb⟩])
              obtain ⟨hb1, hb2⟩ := hb
              go_wp2_with fail
              go_ret2
              rw [HR.out]
              exact ⟨rfl, he1⟩
            · have HR : Hid (RR = (0, 4)) := hidP (by rw [HRL.out, if_neg (fun h => h HP.out), if_neg (fun h => hb h.2)])
              rcases (by omega : (v : Int) < lo ∨ (lo ≤ (v : Int) ∧ hi < (v : Int))) with hc | ⟨hc, hc'⟩
              · go_wp2_with fail
                go_ret2
                rw [HR.out]
                exact ⟨rfl, he1⟩
              · go_wp2_with fail
                go_ret2
                rw [HR.out]
                exact ⟨rfl, he1⟩
          · have hdr : downR v = .tuple #[.int .i64 0, .bool false] := if_neg hv
            rw [hdr]
            clear hdr
            have HR : Hid (RR = (0, 4)) := hidP (by rw [HRL.out]; rw [if_neg (fun h => h HP.out), if_neg (fun h => by omega)])
            go_wp2_with fail
            go_ret2
            rw [HR.out]
            exact ⟨rfl, he1⟩
      · have HP := hidP hp; clear hp
        have HR : Hid (RR = (0, 3)) := hidP (by rw [HRL.out, if_pos (HP.out)])
        go_enter Tryd.func7, Tryd.ntmps7
        go_wp2_with fail
        refine (f_plain_any _ _).mono ?_
        rw [decide_eq_false HP.out]
        rintro e w1 ⟨rfl, he1⟩
        go_wp2_with fail
        go_ret2
        rw [HR.out]
        exact ⟨rfl, he1⟩

end Go.Proofs.YtbhjookpdmfdnaaDoor
