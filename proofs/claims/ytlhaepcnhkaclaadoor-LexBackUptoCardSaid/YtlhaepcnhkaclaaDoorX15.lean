/- Lines as a text: Join. -/
import Derived.Test.YtlhaepcnhkaclaaDoorX14
namespace Go.Proofs.YtlhaepcnhkaclaaDoor
set_option linter.unusedVariables false
set_option linter.unusedSimpArgs false
open Go Go.RowKit

theorem strCells_of {p : List Nat} (h : ∀ x ∈ p, x ≤ 255) : Lib.strCells (bytesOf p) = ints .u8 p := by
  have e : natsOf (bytesOf p) = p := natsOf_bytesOf p h
  conv => rhs; rw [← e]
  unfold natsOf ints
  simp [Lib.strCells, List.map_map, Function.comp_def]
theorem joinW_take {ps : List (List Nat)} {k : Nat} (hk : k < ps.length) : joinW (ps.take (k + 1)) = joinW (ps.take k) ++ ((if k = 0 then [] else [32]) ++ ps.getD k []) := by
  rw [List.take_succ_eq_append_getElem hk, List.getD_eq_getElem?_getD, List.getElem?_eq_getElem hk]
  cases ps with
  | nil => simp at hk
  | cons p r =>
    cases k with
    | zero => simp [joinW]
    | succ k =>
      simp only [List.take_succ_cons, List.cons_append, joinW, List.flatMap_append, List.flatMap_cons, List.flatMap_nil, Nat.succ_ne_zero, if_false, List.append_nil, List.getElem_cons_succ, Option.getD_some, Nat.add_eq_zero_iff, reduceCtorEq, and_false]
      simp
theorem joinW_len_le {ps : List (List Nat)} (k : Nat) : (joinW (ps.take k)).length ≤ longL ps := by
  rw [joinW_len]
  unfold longL
  have h1 := sumL_le (ps := ps) k
  unfold sumL at h1
  have h2 : (ps.take k).length ≤ ps.length := by rw [List.length_take]; omega
  omega
def RetJ (w : World) (r : List Nat × Nat × Nat) (e : Ending) (w' : World) : Prop := ∃ a n c, e = .returned (.tuple #[.slice a n c, .int .i64 (r.2.1 : Int), .int .i64 (r.2.2 : Int)]) ∧ Sl w' a n c (ints .u8 r.1) ∧ Ext w w'
theorem right_lim {k : Nat} {ps : List (List Nat)} (h : rightL k ps = 0) : k ≤ 1000 ∧ longL ps ≤ 4096 := by
  unfold rightL at h
  by_cases h1 : 1000 < k
  · rw [if_pos h1] at h; cases h
  · rw [if_neg h1] at h
    by_cases h2 : 4096 < longL ps
    · rw [if_pos h2] at h; cases h
    · omega

theorem wpList_appT {P : Program} {ops : Array Oper} {rest : List Oper} {o : Oper} {a : Act} {Q : Exit → Act → World → Prop} {w : World} {t e u : TypeId} {B : Nat} (hT : SlT P t e (.int .u8 0) 1) (hu : P.underlying u = some .string)
    (hgd : o.guard = none) (sl x : Operand) (ho : o.op = .call { callee := .builtin .append, args := #[sl, x], argTypes := #[t, u] })
    {v : Value} {n : Nat} {xs : List Value} (hown : w.ownsRow B e 1 v n xs) (hB : B ≤ w.heap.size) (s : ByteArray) (hs : a.eval sl = v) (hx : a.eval x = .string s) (hb : n + s.size ≤ 17592186044416)
    (h : ∀ v' w', w'.ownsRow B e 1 v' (n + s.size) (xs ++ Lib.strCells s) → w.grownBy w' v.ownBlock → wpList P ops Q rest (a.put o.dst v') w') : wpList P ops Q (o :: rest) a w := by
  obtain ⟨ht, i, hi, hz, hsz, hby, hzs⟩ := hT
  refine Lib.wpList_append_own_string w hgd sl x t u ho B e i ht hu hi hz hsz hby v n xs hs hown s hx (by unfold maxLen; omega) (by omega) hB ?_
  intro v' w' h2 h3 _
  exact h v' w' h2 h3
theorem owns_more {w : World} {B : Nat} {e : TypeId} {v : Value} {L M p : List Nat} (hp : ∀ x ∈ p, x ≤ 255) (hM : M = L ++ p) (h : w.ownsRow B e 1 v (L.length + (bytesOf p).size) (ints .u8 L ++ Lib.strCells (bytesOf p))) : w.ownsRow B e 1 v M.length (ints .u8 M) := by
  rw [strCells_of hp, bytesOf_size, ← ints_append] at h
  rw [hM, List.length_append]
  exact h
theorem owns_one {w : World} {B c : Nat} {e : TypeId} {v : Value} {L M : List Nat} (hM : M = L ++ [c]) (h : w.ownsRow B e 1 v (L.length + 1) (ints .u8 L ++ [.int .u8 (c : Int)])) : w.ownsRow B e 1 v M.length (ints .u8 M) := by
  rw [hM, ints_append, List.length_append]
  exact h
theorem owns_one' {w : World} {B c : Nat} {e : TypeId} {v : Value} {L : List Nat} (h : w.ownsRow B e 1 v (L.length + 1) (ints .u8 L ++ [.int .u8 (c : Int)])) : w.ownsRow B e 1 v (L.length + 1) (ints .u8 (L ++ [c])) := by
  rw [ints_append]
  exact h
theorem owns_more' {w : World} {B : Nat} {e : TypeId} {v : Value} {L M p : List Nat} {c : Nat} (hp : ∀ x ∈ p, x ≤ 255) (hM : M = (L ++ [c]) ++ p) (h : w.ownsRow B e 1 v (L.length + 1 + (bytesOf p).size) (ints .u8 (L ++ [c]) ++ Lib.strCells (bytesOf p))) : w.ownsRow B e 1 v M.length (ints .u8 M) := by
  refine owns_more (L := L ++ [c]) hp hM ?_
  simpa using h
set_option maxRecDepth 100000 in
set_option maxHeartbeats 8000000 in
theorem x_Join (a : Option Addr) (n c : Nat) (ll : List (List (List Nat))) (w : World) (h : SlSS w a n c ll) (hn : n ≤ 9223372036854775806) (hb : ∀ ps ∈ ll, ps.length + sumL ps ≤ 4611686018427387904) (hle : ∀ ps ∈ ll, ∀ p ∈ ps, ∀ x ∈ p, x ≤ 255) :
    Calls Tryd.prog 10 #[.slice a n c] w (RetJ w (joinF ll 0 [])) := by
  have H := hidP h
  have HLN := hidP h.len
  have HB := hidP hb; have HLE := hidP hle
  have H0 : Hid (joinF ll 0 [] = joinF (ll.drop 0) 0 []) := hidP rfl
  have HFIN : Hid (ll.drop n = []) := hidP (List.drop_eq_nil_of_le (by rw [h.len]; omega))
  generalize joinF ll 0 [] = All at *
  clear h hb hle
  go_enter Tryd.func10, Tryd.ntmps10
  go_wp2_with fail
  go_loopw [5, 13] (fun v iv wr => ∃ (i : Nat) (out : List Nat), i ≤ n ∧ iv = .int .i64 (i : Int) ∧ wr.ownsRow w.heap.size 5 1 v out.length (ints .u8 out) ∧ Hid (All = joinF (ll.drop i) i out) ∧ out.length ≤ 4097 * i ∧ i ≤ 1000 ∧ Ext w wr) (fun _ iv _ => n - (intOf iv).toNat)
  case atStart => exact ⟨0, [], Nat.zero_le _, rfl, World.ownsRow_nil _ _ _ _, H0, by simp, by omega, Ext.refl _⟩
  case round =>
    clear H0
    obtain ⟨i, out, hi, rfl, hown, HF, hol, hi1, HE⟩ := hrel
    by_cases hlt : i < n
    · obtain ⟨b, off, a1, c1, rfl, h1w, h2w⟩ := H.out.at i hlt
      have h1 := HE.cell' h1w
      clear h1w
      have hil : i < ll.length := by rw [HLN.out]; exact hlt
      have HMEM : Hid (ll[i] ∈ ll) := hidP (List.getElem_mem hil)
      have HDR : Hid (ll.drop i = ll[i] :: ll.drop (i + 1)) := hidP (List.drop_eq_getElem_cons hil)
      generalize ll[i]'(by rw [HLN.out]; exact hlt) = ps at *
      have h2 := h2w.ext HE
      have HS := hidP h2w
      have HR0 := hidP (x_right (i + 1) a1 ps.length c1 ps wr h2 (HB.out _ HMEM.out) (HLE.out _ HMEM.out))
      have hpl : ps.length ≤ 4611686018427387904 := by have := HB.out _ HMEM.out; omega
      have HLIM := hidP (right_lim (k := i + 1) (ps := ps))
      have HST : Hid (All = if rightL (i + 1) ps = 0 then joinF (ll.drop (i + 1)) (i + 1) (out ++ (joinW ps ++ [10])) else ([], i + 1, rightL (i + 1) ps)) := hidP (by rw [HF.out, HDR.out]; rfl)
      have hii : (i : Int) < (n : Int) := by omega
      generalize rightL (i + 1) ps = er at *
      have HBY := hidP (HLE.out _ HMEM.out)
      clear h2 h2w HF HDR
      obtain ⟨av, cv, rfl, -⟩ := owns_slice hown
      by_cases her : er = 0
      · subst her
        obtain ⟨hl1, hl2⟩ := HLIM.out rfl
        have HN := hidP (HST.out.trans (if_pos rfl))
        clear HST HLIM
        go_wp2_with fail
        refine HR0.out.mono ?_
        rintro e u1 ⟨rfl, rfl⟩
        go_wp2_with fail
        obtain ⟨wo, rfl⟩ : ∃ wo, wo = wr := ⟨_, rfl⟩
        go_loopw [5, 29] (fun v kv wi => ∃ k : Nat, k ≤ ps.length ∧ kv = .int .i64 (k : Int) ∧ wi.ownsRow w.heap.size 5 1 v (out ++ joinW (ps.take k)).length (ints .u8 (out ++ joinW (ps.take k))) ∧ Ext w wi) (fun _ kv _ => ps.length - (intOf kv).toNat)
        case atStart => exact ⟨0, Nat.zero_le _, rfl, by simpa [joinW] using hown, HE⟩
        case round =>
          clear hown HE h1
          obtain ⟨k, hk, rfl, hown, HE⟩ := hrel
          have hlen : (out ++ joinW (ps.take k)).length ≤ 5000000 := by have := joinW_len_le (ps := ps) k; rw [List.length_append]; omega
          obtain ⟨av2, cv2, rfl, -⟩ := owns_slice hown
          by_cases hkl : k < ps.length
          · obtain ⟨b1, o1, rfl, hc⟩ := strN_at (HS.out.ext HE) k hkl
            have HT := hidP (joinW_take hkl)
            have HP : Hid (∀ x ∈ ps.getD k [], x ≤ 255) := hidP (HBY.out _ (by rw [List.getD_eq_getElem?_getD, List.getElem?_eq_getElem hkl]; exact List.getElem_mem hkl))
            have hpz : (bytesOf (ps.getD k [])).size ≤ 4096 := by
              have := joinW_len_le (ps := ps) (k + 1)
              rw [HT.out] at this
              simp only [List.length_append] at this
              rw [bytesOf_size]
              omega
            have hki : (k : Int) < (ps.length : Int) := by omega
            have HZ : Hid (w.heap.size ≤ wr.heap.size) := hidP HE.size
            generalize ps.getD k [] = p at *
            by_cases hk0 : k = 0
            · have HT2 : Hid (out ++ joinW (ps.take (k + 1)) = (out ++ joinW (ps.take k)) ++ p) := hidP (by rw [HT.out, if_pos hk0]; simp)
              have hk1 : ¬ (0 : Int) < (k : Int) := by omega
              clear HT hk0
              generalize out ++ joinW (ps.take k) = M at *
              go_wp2_with (at_builtin; refine wpList_appT T_u8 Tryd.underlying9 rfl _ _ rfl hown HZ.out (bytesOf p) rfl rfl (by omega) ?_; intro v' w' hown' hgr; have hEX := HE.book hgr (fun r e => (hown.lt r e).1))
              go_roundw
              case rel => exact ⟨k + 1, by omega, by go_num, owns_more HP.out HT2.out hown', hEX⟩
              case measure => simp only [intOf]; omega
            · have HT2 : Hid (out ++ joinW (ps.take (k + 1)) = ((out ++ joinW (ps.take k)) ++ [32]) ++ p) := hidP (by rw [HT.out, if_neg hk0]; simp)
              have hk1 : (0 : Int) < (k : Int) := by omega
              clear HT hk0
              generalize out ++ joinW (ps.take k) = M at *
              have HG2 := hidP (hown.alloc (.cells #[.int .u8 32] 5))
              have HAL := hidP (HE.alloc (.cells #[.int .u8 32] 5))
              have HB2 := hidP (HAL.out.size)
              go_wp2_with (first | (at_builtin; refine wpList_appS T_u8 rfl _ _ rfl HG2.out HB2.out (.int .u8 32) rfl rfl (cell_one_new _ _ _) rfl (by omega) (by omega) ?_; intro v2 w2 hown2 hgr2; have hEX2 := (HAL.out).book hgr2 (fun r e => (HG2.out.lt r e).1); have hown3 := owns_one' (c := 32) hown2; obtain ⟨av3, cv3, rfl, -⟩ := owns_slice hown3) | (at_builtin; refine wpList_appT T_u8 Tryd.underlying9 rfl _ _ rfl hown3 hEX2.size (bytesOf p) rfl rfl (by omega) ?_; intro v' w' hown' hgr; have hEX := hEX2.book hgr (fun r e => (hown3.lt r e).1)))
              go_roundw
              case rel => exact ⟨k + 1, by omega, by go_num, owns_more' HP.out HT2.out hown', hEX⟩
              case measure => simp only [intOf]; omega
          · obtain rfl : k = ps.length := by omega
            have HJ : Hid (out ++ (joinW ps ++ [10]) = (out ++ joinW (ps.take ps.length)) ++ [10]) := hidP (by rw [List.take_of_length_le (Nat.le_refl _), List.append_assoc])
            have hjl : (out ++ (joinW ps ++ [10])).length ≤ 4097 * (i + 1) := by
              have := joinW_len ps
              simp only [List.length_append, List.length_singleton]
              omega
            have HZ : Hid (w.heap.size ≤ wr.heap.size) := hidP HE.size
            have HJL := hidP hjl
            clear hjl
            generalize out ++ joinW (ps.take ps.length) = M at *
            have HG2 := hidP (hown.alloc (.cells #[.int .u8 10] 5))
            have HAL := hidP (HE.alloc (.cells #[.int .u8 10] 5))
            have HB2 := hidP (HAL.out.size)
            go_wp2_with (at_builtin; refine wpList_appS T_u8 rfl _ _ rfl HG2.out HB2.out (.int .u8 10) rfl rfl (cell_one_new _ _ _) rfl (by omega) (by omega) ?_; intro v2 w2 hown2 hgr2; have hEX2 := (HAL.out).book hgr2 (fun r e => (HG2.out.lt r e).1))
            go_roundw
            case rel => exact ⟨i + 1, _, by omega, by go_num, owns_one (c := 10) HJ.out hown2, HN.out, HJL.out, by omega, hEX2⟩
            case measure => simp only [intOf]; omega
      · have hne1 : ((er : Int) != 0) = true := by simp; omega
        have hne2 : ((er : Int) == 0) = false := by simp; omega
        have HN := hidP (HST.out.trans (if_neg her))
        clear HST HLIM her
        go_wp2_with fail
        refine HR0.out.mono ?_
        rintro e u1 ⟨rfl, rfl⟩
        go_wp2_with fail
        go_ret3
        rw [HN.out]
        exact ⟨_, _, _, rfl, Sl.nil _, HE⟩
    · obtain rfl : i = n := by omega
      have HR : Hid (All = (out, 0, 0)) := hidP (by rw [HF.out, HFIN.out]; rfl)
      have HOWN := hidP hown
      obtain ⟨av, cv, rfl, -⟩ := owns_slice hown
      clear hown
      go_wp2_with fail
      go_ret3
      rw [HR.out]
      obtain ⟨_, _, e8, s8⟩ := owns_slice HOWN.out
      cases e8
      exact ⟨_, _, _, rfl, s8, HE⟩

end Go.Proofs.YtlhaepcnhkaclaaDoor
