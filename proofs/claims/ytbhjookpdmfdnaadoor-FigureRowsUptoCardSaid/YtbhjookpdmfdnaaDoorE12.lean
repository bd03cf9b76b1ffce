/- Rows of words as numbers: the program's and the document's. -/
import Derived.Test.YtbhjookpdmfdnaaDoorE10
import Derived.Test.YtbhjookpdmfdnaaDoorMem2
namespace Go.Proofs.YtbhjookpdmfdnaaDoor
set_option linter.unusedVariables false
open Go Go.RowKit

def strs (l : List ByteArray) : List Value := l.map Value.string
def intsZ (l : List Int) : List Value := l.map (Value.int .i64)
theorem strs_len (l : List ByteArray) : (strs l).length = l.length := by simp [strs]
theorem intsZ_len (l : List Int) : (intsZ l).length = l.length := by simp [intsZ]

theorem Sl.cell_at {w : World} {a : Option Addr} {n cap : Nat} {xs : List Value} (h : Sl w a n cap xs) (i : Nat) (hi : i < n) :
    ∃ b off u, a = some ⟨b, off, none⟩ ∧ xs[i]? = some u ∧ w.cell? ⟨b, off + i, none⟩ = some u := by
  obtain ⟨b, off, ha, hc⟩ := h.2.2.2 (by omega)
  have hl := h.1
  exact ⟨b, off, xs[i]'(by omega), ha, List.getElem?_eq_getElem (by omega), hc i _ (List.getElem?_eq_getElem (by omega))⟩

/-- 'd = append(d, ..)' of one value, whatever its size. -/
theorem wp_appW {P : Program} {o : Oper} {a : Act} {K : Act → World → Prop} {Q : Exit → Act → World → Prop} {W w : World} {t e : TypeId} {z : Value} {bytes : Nat} (hT : SlT P t e z bytes)
    (s x : Operand) (ho : o.op = .call { callee := .builtin .append, args := #[s, x], argTypes := #[t, t] })
    {v : Value} {n : Nat} {xs : List Value} (hown : w.ownsRow W.heap.size e 1 v n xs) (he : Ext W w) {ad : Addr} {m c : Nat} (news : List Value) (hs : a.eval s = v) (hx : a.eval x = .slice (some ad) m c)
    (hl : news.length = m) (hnews : ∀ j u, news[j]? = some u → w.cell? (ad.add j) = some u) (h1 : ∀ u ∈ news, u.oneCell' = true) (hb : n + m ≤ 17592186044416) (hb' : (n + m) * bytes ≤ 140737488355328)
    (h : ∀ v' w', w'.ownsRow W.heap.size e 1 v' (n + m) (xs ++ news) → Ext W w' → K (a.put o.dst v') w') : o.wp P a w K Q := by
  obtain ⟨ht, i, hi, hz, hsz, hby, hzs⟩ := hT
  refine wp_append_own w s x t ho W.heap.size e i z 1 bytes ht hi hz hsz hby hzs (by decide) v n xs hs hown ad m c news hx (by simpa using hl) hnews h1 (by unfold maxLen; omega)
    hb' he.size ?_
  intro v' w' h1 h2 _
  exact h v' w' h1 (Below.grown he h2 he.size (fun k hk => (hown.lt k hk).1))
theorem wpList_appW1 {P : Program} {ops : Array Oper} {rest : List Oper} {o : Oper} {a : Act} {Q : Exit → Act → World → Prop} {W w : World} {t e e' : TypeId} {z : Value} {bytes : Nat} (hT : SlT P t e z bytes)
    (hgd : o.guard = none) (s x : Operand) (ho : o.op = .call { callee := .builtin .append, args := #[s, x], argTypes := #[t, t] })
    {v : Value} {n : Nat} {xs : List Value} (hown : w.ownsRow W.heap.size e 1 v n xs) (he : Ext W w) (u : Value) (hu : u.oneCell' = true) {c : Nat} (hs : a.eval s = v)
    (hx : a.eval x = .slice (some ⟨w.heap.size, 0, none⟩) 1 c) (hb : n + 1 ≤ 17592186044416) (hb' : (n + 1) * bytes ≤ 140737488355328)
    (h : ∀ v' w', w'.ownsRow W.heap.size e 1 v' (n + 1) (xs ++ [u]) → Ext W w' → wpList P ops Q rest (a.put o.dst v') w') :
    wpList P ops Q (o :: rest) a (w.alloc (.cells #[u] e')) :=
  wpList_plain hgd fun _ hK => wp_appW hT s x ho (hown.alloc _) (he.alloc _) [u] hs hx rfl (cell_one_new _ _ _) (by simpa using hu) hb hb' fun v' w' h1 h2 => hK _ _ (h v' w' h1 h2)
theorem wpList_make0W {P : Program} {ops : Array Oper} {rest : List Oper} {o : Oper} {a : Act} {Q : Exit → Act → World → Prop} {W w : World} {t e : TypeId} {z : Value} {bytes : Nat} (hT : SlT P t e z bytes)
    (hgd : o.guard = none) (x y : Operand) (ho : o.op = .makeSlice t x y) {kl kc : IntKind} {n : Nat} (hx : a.eval x = .int kl 0) (hy : a.eval y = .int kc (n : Int)) (he : Ext W w) (hn : n ≤ 17592186044416) (hb' : bytes * n ≤ 140737488355328)
    (h : ∀ w', w'.ownsRow W.heap.size e 1 (.slice (some ⟨w.heap.size, 0, none⟩) 0 n) 0 [] → Ext W w' → wpList P ops Q rest (a.put o.dst (.slice (some ⟨w.heap.size, 0, none⟩) 0 n)) w') :
    wpList P ops Q (o :: rest) a w := by
  obtain ⟨ht, i, hi, hz, hsz, hby, hzs⟩ := hT
  refine wpList_plain hgd fun K hK => ?_
  obtain ⟨w', hr, hown, hgr⟩ := run_make_own (P := P) w W.heap.size t e i z 1 ht hi hz hsz kl kc n (by
    rw [hby]; exact Nat.le_trans hb' (by decide)) (by unfold maxLen; omega) he.size
  unfold Oper.wp execOp
  simp only [ho, hx, hy, Sem.run_bind, Sem.run_pure, hr, Result.andThen_ok]
  exact hK _ _ (h _ hown (Below.grown he hgr he.size (fun k hk => by cases hk)))

theorem T_int : SlT Tryd.prog 47 3 (.int .i64 0) 8 :=
  let ⟨i, h1, h2, h3, h4⟩ := info_parts (P := Tryd.prog) (e := 3) (z := .int .i64 0) (size := 1) (bytes := 8) (by kernel_rfl); ⟨Tryd.underlying47, i, h1, h2, h3, h4, rfl⟩
theorem T_str : SlT Tryd.prog 46 9 (.string ⟨#[]⟩) 16 :=
  let ⟨i, h1, h2, h3, h4⟩ := info_parts (P := Tryd.prog) (e := 9) (z := .string ⟨#[]⟩) (size := 1) (bytes := 16) (by kernel_rfl); ⟨Tryd.underlying46, i, h1, h2, h3, h4, rfl⟩

theorem ownsRow_ext {w u : World} {B e n : Nat} {v : Value} {xs : List Value} (h : w.ownsRow B e 1 v n xs) (he : Ext w u) : u.ownsRow B e 1 v n xs := by
  obtain ⟨h1, h2⟩ := h
  refine ⟨h1, ?_⟩
  rcases h2 with h2 | ⟨g, cap, cur, rfl, hg, hh, hn, hm, hs, hx⟩
  · exact .inl h2
  · have hlt : g < w.heap.size := by
      rcases Nat.lt_or_ge g w.heap.size with h | h
      · exact h
      · rw [Array.getElem?_eq_none h] at hh; cases hh
    exact .inr ⟨g, cap, cur, rfl, hg, (he.block g hlt).trans hh, hn, hm, hs, hx⟩

/-- The first word that is none. -/
def firstBad (f : ByteArray → Int × Nat) : List ByteArray → Nat → Option (Nat × Nat)
  | [], _ => none
  | s :: r, i => if (f s).2 = 0 then firstBad f r (i + 1) else some (i, (f s).2)
def NumsR (w : World) (R : Option (Nat × Nat)) (vals : List Int) (e : Ending) (w' : World) : Prop :=
  match R with
  | some (i, c) => e = .returned (.tuple #[.slice none 0 0, .int .i64 (i : Int), .int .i64 (c : Int)]) ∧ Ext w w'
  | none => ∃ a n cap, e = .returned (.tuple #[.slice a n cap, .int .i64 0, .int .i64 0]) ∧ Sl w' a n cap (intsZ vals) ∧ Ext w w'
theorem firstBad_step {f : ByteArray → Int × Nat} {ss : List ByteArray} {k : Nat} {s : ByteArray} {R : Option (Nat × Nat)} (h : firstBad f (ss.drop k) k = R) (hs : ss[k]? = some s) :
    if (f s).2 = 0 then firstBad f (ss.drop (k + 1)) (k + 1) = R else R = some (k, (f s).2) := by
  obtain ⟨hk, rfl⟩ := List.getElem?_eq_some_iff.1 hs
  rw [List.drop_eq_getElem_cons hk] at h
  simp only [firstBad] at h
  split
  · next h0 => rw [if_pos h0] at h; exact h
  · next h0 => rw [if_neg h0] at h; exact h.symm

set_option maxRecDepth 100000 in
set_option maxHeartbeats 2000000 in
theorem f_Nums_any (a : Option Addr) (n cap : Nat) (ss : List ByteArray) (lo hi : Int) (w : World) (hs : Sl w a n cap (strs ss)) (hsz : ∀ s ∈ ss, s.size ≤ 9223372036854775807) (hn : n ≤ 1048576)
    (f : ByteArray → Int × Nat) (hf : ∀ s, f s = readL (natsOf s) lo hi) :
    Calls Tryd.prog 21 #[.slice a n cap, .int .i64 lo, .int .i64 hi] w (NumsR w (firstBad f ss 0) (ss.map fun s => (f s).1)) := by
  have hln : ss.length = n := by have := hs.1; simpa [strs] using this
  have hr : ∀ s u, s ∈ ss → Calls Tryd.prog 7 #[.string s, .int .i64 lo, .int .i64 hi] u fun e w' => e = .returned (.tuple #[.int .i64 (f s).1, .int .i64 ((f s).2 : Nat)]) ∧ Ext u w' := fun s u h => by
    rw [hf]; exact f_Read_any s lo hi u (hsz s h)
  generalize hRR : firstBad f ss 0 = RR
  generalize hVV : (ss.map fun s => (f s).1) = VV
  have HR := hidP hr; have HRR := hidP hRR; have HVV := hidP hVV; have HLN := hidP hln
  clear hr hRR hVV hln hf hsz
  go_enter Tryd.func21, Tryd.ntmps21
  go_wp2_with (at_make; refine wpList_make0W (W := w) (n := n) T_int rfl _ _ rfl rfl rfl (Ext.refl _) (by omega) (by omega) ?_; intro v' hown he)
  go_loopw [9, 19] (fun v i wr => ∃ k : Nat, k ≤ n ∧ i = .int .i64 (k : Int) ∧ wr.ownsRow w.heap.size 3 1 v k (intsZ ((ss.take k).map fun s => (f s).1)) ∧ Ext w wr ∧ firstBad f (ss.drop k) k = RR) (fun _ i _ => n - (intOf i).toNat)
  case atStart => exact ⟨0, by omega, rfl, by simpa [intsZ] using hown, he, by simpa using HRR.out⟩
  case round =>
    clear hown he
    obtain ⟨k, hk, rfl, hown, he, hv⟩ := hrel
    have HV := hidP hv; clear hv
    by_cases h0 : k < n
    · obtain ⟨b, off, u, rfl, hu, hc⟩ := (hs.ext he).cell_at k h0
      obtain ⟨s, hsk, rfl⟩ : ∃ s, ss[k]? = some s ∧ u = .string s := by
        simp only [strs, List.getElem?_map, Option.map_eq_some_iff] at hu
        obtain ⟨s, h1, h2⟩ := hu
        exact ⟨s, h1, h2.symm⟩
      have HST := hidP (firstBad_step HV.out hsk)
      have HMEM := hidP (List.mem_of_getElem? hsk)
      have htk : (ss.take (k + 1)).map (fun s => (f s).1) = (ss.take k).map (fun s => (f s).1) ++ [(f s).1] := by
        obtain ⟨hkl, rfl⟩ := List.getElem?_eq_some_iff.1 hsk
        rw [List.take_succ_eq_append_getElem hkl, List.map_append]; rfl
      have HTK := hidP htk
      clear hu hsk htk
      go_wp2_with fail
      refine (HR.out s _ HMEM.out).mono ?_
      rintro e w1 ⟨rfl, he1⟩
      have HE := he.trans he1
      replace hown := ownsRow_ext hown he1
      clear he he1
      have hst := HST.out
      generalize f s = fs at *
      obtain ⟨x, c⟩ := fs
      simp only [] at hst ⊢
      have HST2 := hidP hst; clear hst
      by_cases h1 : c = 0
      · subst h1
        have HN := HST2.out
        rw [if_pos rfl] at HN
        have HNN := hidP HN; clear HN
        go_wp2_with (at_builtin; refine wpList_appW1 T_int rfl _ _ rfl hown HE _ rfl rfl rfl (by omega) (by omega) ?_; intro v' w' hown' he')
        go_roundw
        case rel => exact ⟨k + 1, by omega, by go_num, by rw [HTK.out]; simpa [intsZ] using hown', he', HNN.out⟩
        case measure => simp only [intOf]; omega
      · have HN := HST2.out
        rw [if_neg h1] at HN
        have HNN := hidP HN; clear HN
        have hc0 : ((c : Int) != 0) = true := by simp; omega
        have hc1 : ((c : Int) == 0) = false := by simp; omega
        go_wp2_with fail
        go_ret3
        rw [HNN.out]
        exact ⟨rfl, HE⟩
    · obtain rfl : k = n := by omega
      rw [List.take_of_length_le (by rw [HLN.out]; omega), HVV.out] at hown
      have hN : RR = none := by
        have := HV.out
        rw [List.drop_eq_nil_of_le (by rw [HLN.out]; omega)] at this
        exact this.symm
      have HN := hidP hN; clear hN
      obtain ⟨a5, cap5, rfl, hsl⟩ := Sl.of_owns hown
      go_wp2_with fail
      go_ret3
      rw [HN.out]
      exact ⟨_, _, _, rfl, hsl, he⟩

set_option maxRecDepth 100000 in
set_option maxHeartbeats 2000000 in
theorem r07_Nums_any (a : Option Addr) (n cap : Nat) (ss : List ByteArray) (lo hi : Int) (w : World) (hs : Sl w a n cap (strs ss)) (hsz : ∀ s ∈ ss, s.size ≤ 9223372036854775807) (hn : n ≤ 1048576)
    (f : ByteArray → Int × Nat) (hf : ∀ s, f s = readL (natsOf s) lo hi) :
    Calls Tryd.prog 22 #[.slice a n cap, .int .i64 lo, .int .i64 hi] w (NumsR w (firstBad f ss 0) (ss.map fun s => (f s).1)) := by
  have hln : ss.length = n := by have := hs.1; simpa [strs] using this
  have hr : ∀ s u, s ∈ ss → Calls Tryd.prog 8 #[.string s, .int .i64 lo, .int .i64 hi] u fun e w' => e = .returned (.tuple #[.int .i64 (f s).1, .int .i64 ((f s).2 : Nat)]) ∧ Ext u w' := fun s u h => by
    rw [hf]; exact r07_Read_any s lo hi u (hsz s h)
  generalize hRR : firstBad f ss 0 = RR
  generalize hVV : (ss.map fun s => (f s).1) = VV
  have HR := hidP hr; have HRR := hidP hRR; have HVV := hidP hVV; have HLN := hidP hln
  clear hr hRR hVV hln hf hsz
  go_enter Tryd.func22, Tryd.ntmps22
  go_wp2_with fail
  go_loopw [9, 10] (fun v i wr => ∃ k : Nat, k ≤ n ∧ i = .int .i64 (k : Int) ∧ wr.ownsRow w.heap.size 3 1 v k (intsZ ((ss.take k).map fun s => (f s).1)) ∧ Ext w wr ∧ firstBad f (ss.drop k) k = RR) (fun _ i _ => n - (intOf i).toNat)
  case atStart => exact ⟨0, by omega, rfl, by simpa [intsZ] using World.ownsRow_nil w w.heap.size 3 1, Ext.refl w, by simpa using HRR.out⟩
  case round =>
    obtain ⟨k, hk, rfl, hown, he, hv⟩ := hrel
    have HV := hidP hv; clear hv
    by_cases h0 : k < n
    · obtain ⟨b, off, u, rfl, hu, hc⟩ := (hs.ext he).cell_at k h0
      obtain ⟨s, hsk, rfl⟩ : ∃ s, ss[k]? = some s ∧ u = .string s := by
        simp only [strs, List.getElem?_map, Option.map_eq_some_iff] at hu
        obtain ⟨s, h1, h2⟩ := hu
        exact ⟨s, h1, h2.symm⟩
      have HST := hidP (firstBad_step HV.out hsk)
      have HMEM := hidP (List.mem_of_getElem? hsk)
      have htk : (ss.take (k + 1)).map (fun s => (f s).1) = (ss.take k).map (fun s => (f s).1) ++ [(f s).1] := by
        obtain ⟨hkl, rfl⟩ := List.getElem?_eq_some_iff.1 hsk
        rw [List.take_succ_eq_append_getElem hkl, List.map_append]; rfl
      have HTK := hidP htk
      clear hu hsk htk
      go_wp2_with fail
      refine (HR.out s _ HMEM.out).mono ?_
      rintro e w1 ⟨rfl, he1⟩
      have HE := he.trans he1
      replace hown := ownsRow_ext hown he1
      clear he he1
      have hst := HST.out
      generalize f s = fs at *
      obtain ⟨x, c⟩ := fs
      simp only [] at hst ⊢
      have HST2 := hidP hst; clear hst
      by_cases h1 : c = 0
      · subst h1
        have HN := HST2.out
        rw [if_pos rfl] at HN
        have HNN := hidP HN; clear HN
        go_wp2_with (at_builtin; refine wpList_appW1 T_int rfl _ _ rfl hown HE _ rfl rfl rfl (by omega) (by omega) ?_; intro v' w' hown' he')
        go_roundw
        case rel => exact ⟨k + 1, by omega, by go_num, by rw [HTK.out]; simpa [intsZ] using hown', he', HNN.out⟩
        case measure => simp only [intOf]; omega
      · have HN := HST2.out
        rw [if_neg h1] at HN
        have HNN := hidP HN; clear HN
        have hc0 : ((c : Int) != 0) = true := by simp; omega
        have hc1 : ((c : Int) == 0) = false := by simp; omega
        go_wp2_with fail
        go_ret3
        rw [HNN.out]
        exact ⟨rfl, HE⟩
    · obtain rfl : k = n := by omega
      rw [List.take_of_length_le (by rw [HLN.out]; omega), HVV.out] at hown
      have hN : RR = none := by
        have := HV.out
        rw [List.drop_eq_nil_of_le (by rw [HLN.out]; omega)] at this
        exact this.symm
      have HN := hidP hN; clear hN
      obtain ⟨a5, cap5, rfl, hsl⟩ := Sl.of_owns hown
      go_wp2_with fail
      go_ret3
      rw [HN.out]
      exact ⟨_, _, _, rfl, hsl, he⟩

end Go.Proofs.YtbhjookpdmfdnaaDoor
