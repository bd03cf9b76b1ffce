/- The program's numbers (nat): quotients by one word; as 64 bits; shifts. -/
import Derived.Test.YtcipcpbjkcpgdaaB3
namespace Go.Proofs.Ytcipcpbjkcpgdaa
set_option linter.unusedVariables false
open Go Go.RowKit

theorem val_drop_cons (B : Nat) (X : List Nat) (i : Nat) (h : i < X.length) : val B (X.drop i) = X.getD i 0 + B * val B (X.drop (i + 1)) := by
  rw [List.drop_eq_getElem_cons h, val, List.getD_eq_getElem?_getD]
  simp [h]

/-- A block of values of a type. -/
def BlkT (w : World) (g : Nat) (e : TypeId) : Prop := ∃ cur fr, w.heap[g]? = some (.cells cur e fr)
theorem BlkT.of_row {w : World} {B e g n cap m : Nat} {xs : List Value} (h : w.ownsRow B e 1 (.slice (some ⟨g, 0, none⟩) n cap) m xs) : BlkT w g e := by
  rcases h.2 with ⟨hbad, _⟩ | ⟨g', cap', cur, hv, hg, hh, _⟩
  · cases hbad
  · simp only [Value.slice.injEq, Option.some.injEq, Addr.mk.injEq, and_true] at hv
    obtain ⟨rfl, _⟩ := hv
    exact ⟨_, _, hh⟩
theorem BlkT.lt {w : World} {g : Nat} {e : TypeId} (h : BlkT w g e) : g < w.heap.size := by
  obtain ⟨cur, fr, hh⟩ := h
  rcases Nat.lt_or_ge g w.heap.size with h | h
  · exact h
  · rw [Array.getElem?_eq_none h] at hh; cases hh
theorem BlkT.other {w : World} {g : Nat} {e e' : TypeId} {B n : Nat} {v : Value} {xs : List Value} (h : BlkT w g e) (hr : w.ownsRow B e' 1 v n xs) (hne : e ≠ e') : v.ownBlock ≠ some g := by
  intro hk
  rcases hr.2 with ⟨rfl, _⟩ | ⟨g', cap', cur, rfl, hg, hh, _⟩
  · simp [Value.ownBlock] at hk
  · simp [Value.ownBlock] at hk
    subst hk
    obtain ⟨cur', fr, h2⟩ := h
    rw [hh] at h2
    cases h2
    exact hne rfl
theorem BlkT.grown {w w' : World} {g : Nat} {e : TypeId} {row : Option Nat} (h : BlkT w g e) (hg : w.grownBy w' row) (hr : row ≠ some g) : BlkT w' g e := by
  have hl := h.lt
  obtain ⟨cur, fr, h2⟩ := h
  exact ⟨cur, fr, (hg.block g hl (fun e => hr e.symm)).trans h2⟩
theorem BlkT.ext {w w' : World} {g : Nat} {e : TypeId} (h : BlkT w g e) (he : Ext w w') : BlkT w' g e := by
  have hl := h.lt
  obtain ⟨cur, fr, h2⟩ := h
  exact ⟨cur, fr, (he.block g hl).trans h2⟩
theorem Sl.grown {w w' : World} {g off n cap : Nat} {xs : List Value} {row : Option Nat} (h : Sl w (some ⟨g, off, none⟩) n cap xs) (hl : g < w.heap.size) (hg : w.grownBy w' row) (hr : row ≠ some g) : Sl w' (some ⟨g, off, none⟩) n cap xs := by
  refine ⟨h.1, h.2.1, h.2.2.1, fun h0 => ?_⟩
  obtain ⟨b, o, ha, hc⟩ := h.2.2.2 h0
  simp only [Option.some.injEq, Addr.mk.injEq, and_true] at ha
  obtain ⟨rfl, rfl⟩ := ha
  exact ⟨g, off, rfl, fun i u hu => (World.cell?_of_block (w := w) (hg.block g hl (fun e => hr e.symm))).trans (hc i u hu)⟩

/-- The quotient's words and the rest. -/
def RetSmall (w : World) (x by_ : Nat) (e : Ending) (w' : World) : Prop :=
  ∃ g n cap, e = .returned (.tuple #[.slice (some ⟨g, 0, none⟩) n cap, .int .u32 (x % by_ : Nat)]) ∧ Sl w' (some ⟨g, 0, none⟩) n cap (ints .u32 (dig B32 (x / by_))) ∧ Ext w w' ∧ BlkT w' g 57

set_option maxHeartbeats 2000000 in
theorem nat_small_any (a : Option Addr) (n cap : Nat) (x : List Nat) (by_ : Nat) (w : World) (hs : Sl w a n cap (ints .u32 x)) (hx : Ws x) (hn : n ≤ 4398046511105) (hb1 : 1 ≤ by_) (hb2 : by_ ≤ 4294967295) :
    Calls Try.prog 119 #[.slice a n cap, .int .u32 by_] w (RetSmall w (val B32 x) by_) := by
  have hlen := hs.int_len
  have hdx := fun i => dig_get hx i
  have hXH : Ws (dig B32 (val B32 x)) := Ws.dig _
  have hvx := val_dig B32_two (val B32 x)
  have hmn := dig_val_len B32_two x hx
  obtain ⟨X, hX⟩ : ∃ X, X = dig B32 (val B32 x) := ⟨_, rfl⟩
  rw [← hX] at hdx hXH hvx hmn
  have HX := hidP hX; clear hX
  have HDX := hidP hdx; have HVX := hidP hvx
  clear hdx hvx
  obtain ⟨m, hm⟩ : ∃ m, m = X.length := ⟨_, rfl⟩
  rw [← hm] at hmn
  have HM := hidP hm; clear hm
  go_enter Try.func119, Try.ntmps119
  go_wp2_with fail
  refine (nat_size_any a n cap x _ hs hx (by omega)).mono ?_
  rw [← HX.out, ← HM.out]; rintro e w' ⟨rfl, rfl⟩
  go_wp2_with (at_make; refine wpList_make (W := w) (n := m) T_u32' rfl _ _ rfl rfl rfl (Ext.refl _) (by omega) (by omega) rfl ?_; intro w3 hown he3 hsz)
  generalize hG : w.heap.size = g at *
  have HG := hidP hG; clear hG
  rw [replicate_ints] at hown
  clear hsz
  go_loopw [7, 8] (fun rv iv wr => ∃ (k r : Nat) (D : List Nat), k ≤ m ∧ iv = .int .i64 ((k : Int) - 1) ∧ rv = .int .u64 r ∧ r < by_ ∧ wr.ownsRow g 57 1 (.slice (some ⟨g, 0, none⟩) m m) m (ints .u32 D) ∧ Ext w wr ∧ Ws D ∧ val B32 (X.drop k) = val B32 (D.drop k) * by_ + r ∧ D.length = m) (fun _ iv _ => (intOf iv + 1).toNat)
  case atStart => exact ⟨m, 0, _, by omega, by go_num, rfl, by omega, hown, he3, by (intro d hd; simp at hd; rw [hd.2]; decide), by rw [List.drop_of_length_le (by rw [← HM.out]; omega), List.drop_of_length_le (by simp)]; simp [val], by simp⟩
  case round =>
    clear hown he3
    obtain ⟨k, r, D, hk, rfl, rfl, hr, hown, he, hD, hv, hDl⟩ := hrel
    have HV := hidP hv; clear hv
    by_cases h0 : 0 < k
    · obtain ⟨i, rfl⟩ : ∃ i, k = i + 1 := ⟨k - 1, by omega⟩
      have e1 : ((i + 1 : Nat) : Int) - 1 = (i : Int) := by omega
      rw [e1]
      clear e1
      obtain ⟨b, off, rfl, hc⟩ := (hs.ext he).at_int (by omega)
      obtain ⟨hi1, hxi⟩ := HDX.out i (by have := HM.out; omega)
      have hck := hc i hi1
      rw [hxi] at hck
      clear hc hxi
      have hpb := getD_lt (B := B32) (by decide) hXH i
      generalize hP : X.getD i 0 = p at *
      have HP := hidP hP; clear hP
      have hp1 : p ≤ 4294967295 := by unfold B32 at hpb; omega
      clear hpb
      have hr1 : r ≤ 4294967295 := by omega
      have him : i < m := by omega
      have hor := or32 r p hr1 hp1
      have hik : i < D.length := by omega
      have hcD := Row.cell hown i hik
      have hfr := Row.free hown i
      have hst := fun v => Row.store hown i v
      have hdd : Hid (∀ v, val B32 ((D.set i v).drop i) = v + B32 * val B32 (D.drop (i + 1))) := hidP (by
        intro v
        have e1 : (D.set i v).getD i 0 = v := by rw [List.getD_eq_getElem?_getD, List.getElem?_set_self hik]; rfl
        have e2 : (D.set i v).drop (i + 1) = D.drop (i + 1) := by rw [List.drop_set, if_pos (by omega)]
        rw [val_drop_cons B32 _ i (by simpa using hik), e1, e2])
      have HST := hidP hst; clear hst
      obtain ⟨V, hV⟩ : ∃ V, V = r * 4294967296 + p := ⟨_, rfl⟩
      have hVb : V ≤ 18446744073709551615 := by omega
      have hVq : V / by_ ≤ 4294967295 := by
        have h1 : V < 4294967296 * by_ := by
          have h2 : (r + 1) * 4294967296 ≤ by_ * 4294967296 := Nat.mul_le_mul_right _ hr
          omega
        have h3 : V / by_ < 4294967296 := (Nat.div_lt_iff_lt_mul (by omega)).2 h1
        exact Nat.le_of_lt_succ h3
      have hVr : V % by_ < by_ := Nat.mod_lt _ (by omega)
      rw [← hV] at hor
      have HVV := hidP hV; clear hV
      have hw1 : IntKind.u64.wrap ((V : Int) / (by_ : Int)) = ((V / by_ : Nat) : Int) := by
        rw [← Int.natCast_ediv]
        generalize V / by_ = q at *
        exact IntWalk.u64_in _ (by omega)
      have hw2 : (V : Int).tmod (by_ : Int) = ((V % by_ : Nat) : Int) := by rw [IntWalk.rem_in _ _ (by omega)]; rfl
      have hbz : ¬ by_ = 0 := by omega
      have hDM : Hid (V = by_ * (V / by_) + V % by_) := hidP (Nat.div_add_mod V by_).symm
      generalize hq : V / by_ = q at *
      generalize hrr : V % by_ = rr at *
      clear hq hrr
      have hrr1 : rr ≤ 4294967295 := by omega
      go_wp2_with fail
      refine wp_region_plan (R := fun _ _ => True) (.q 0 (.q 1 (.q 2 (.q 3 (.q 4 (.q 5 (.q 6 (.q 7 (.q 8 (.q 9 (.q 10 (.q 11 (.l 12 (.q 13 .done)))))))))))))) (by kernel_rfl) (by kernel_rfl) (by kernel_rfl) (by kernel_rfl) (fun _ => trivial) (fun _ _ _ _ _ => trivial) ?_
      repeat (refine wpE_q (v := ?_) rfl rfl (fun u hu => ?_) ?_; rotate_left 1; (focus (go_simp; (try go_bits); (try rfl))); simp only [Act.put, List.setIfInBounds_toArray, List.set_cons_zero, List.set_cons_succ])
      refine wpE_l rfl rfl (fun K hK => ?_)
      go_simp
      refine hK.out _ _ trivial ?_
      clear hK K
      try simp only [Act.put, List.setIfInBounds_toArray, List.set_cons_zero, List.set_cons_succ]
      repeat (refine wpE_q (v := ?_) rfl rfl (fun u hu => ?_) ?_; rotate_left 1; (focus (go_simp; (try go_bits); (try rfl))); simp only [Act.put, List.setIfInBounds_toArray, List.set_cons_zero, List.set_cons_succ])
      refine wpE_done ?_
      go_wp2
      go_roundw
      case rel =>
        refine ⟨i, rr, D.set i q, by omega, rfl, rfl, hVr, HST.out q, he.drew.store (by rw [HG.out]; exact Nat.le_refl _) _, set_lt hD _ _ (by unfold B32; omega), ?_, by simpa using hDl⟩
        have h1 := HV.out
        rw [val_drop_cons B32 X i (by have := HM.out; omega), HP.out, h1, hdd.out]
        have h2 := hDM.out
        have h3 := HVV.out
        have e : (q + B32 * val B32 (D.drop (i + 1))) * by_ = by_ * q + B32 * (val B32 (D.drop (i + 1)) * by_) := by rw [Nat.add_mul, Nat.mul_comm q, Nat.mul_assoc]
        rw [e, Nat.mul_add]
        unfold B32 at *
        omega
      case measure => simp [intOf]
    · obtain rfl : k = 0 := by omega
      have h1 := HV.out
      simp only [List.drop_zero] at h1
      rw [HVX.out] at h1
      have HQV : Hid (val B32 x / by_ = val B32 D) := hidP (by
        rw [h1, Nat.mul_comm, Nat.mul_add_div (by omega), Nat.div_eq_of_lt hr, Nat.add_zero])
      have HRV : Hid (val B32 x % by_ = r) := hidP (by
        rw [h1, Nat.mul_comm, Nat.mul_add_mod, Nat.mod_eq_of_lt hr])
      clear h1
      have hsl := Sl.of_owns' hown
      have HCUT := hidP (cut_sl32 hsl hD)
      have HBT := hidP (BlkT.of_row hown)
      have hcl := dig_val_len B32_two D hD
      go_wp2_with fail
      refine (nat_size_any _ _ _ D _ hsl hD (by omega)).mono ?_
      generalize hk5 : (dig B32 (val B32 D)).length = k5 at *
      have HK5 := hidP hk5; clear hk5
      rintro e w' ⟨rfl, rfl⟩
      go_wp2
      go_ret2
      exact ⟨_, _, _, by rw [HRV.out]; rfl, by rw [HQV.out]; exact HCUT.out, he, HBT.out⟩

end Go.Proofs.Ytcipcpbjkcpgdaa
