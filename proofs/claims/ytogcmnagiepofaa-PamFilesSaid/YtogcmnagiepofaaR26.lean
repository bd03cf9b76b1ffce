/- Rasters: the document's file. -/
import Derived.Test.YtogcmnagiepofaaR24
import Derived.Lib.FrozenHead
namespace Go.Proofs.Ytogcmnagiepofaa
set_option linter.unusedVariables false
set_option linter.unusedSimpArgs false
open Go Go.RowKit

/-- A row of bytes of the call's own, none of whose cells is frozen, be it marked or not. -/
def OwnM (w : World) (B : Nat) (e : TypeId) (v : Value) (n : Nat) (xs : List Value) : Prop :=
  xs.length = n ∧ ∃ g cap cur fz, v = .slice (some ⟨g, 0, none⟩) n cap ∧ B ≤ g ∧ w.heap[g]? = some (.cells cur e fz) ∧ (∀ j, j < cur.size → ¬ (fz.1 ≤ j ∧ j < fz.2)) ∧ n ≤ cap ∧ cap ≤ maxLen ∧ cur.size = cap ∧ cur.toList.take n = xs
theorem OwnM.ext {w u : World} {B n : Nat} {e : TypeId} {v : Value} {xs : List Value} (h : OwnM w B e v n xs) (hx : Ext w u) : OwnM u B e v n xs := by
  obtain ⟨h1, g, cap, cur, fz, hv, hb, hg, r⟩ := h
  exact ⟨h1, g, cap, cur, fz, hv, hb, by rw [hx.block g (Array.getElem?_eq_some_iff.1 hg).1]; exact hg, r⟩
theorem OwnM.sl {w : World} {B n : Nat} {e : TypeId} {v : Value} {xs : List Value} (h : OwnM w B e v n xs) : ∃ a c, v = .slice a n c ∧ Sl w a n c xs := by
  obtain ⟨h1, g, cap, cur, fz, hv, hb, hg, hf, h2, h3, h4, h5⟩ := h
  refine ⟨_, _, hv, h1, h2, h3, fun h0 => ⟨g, 0, rfl, fun i u hu => ?_⟩⟩
  have hi := (List.getElem?_eq_some_iff.1 hu).1
  rw [Nat.zero_add, cell_of_row w g i cur e fz hg]
  rw [← h5, List.getElem?_take] at hu
  split at hu
  · simpa using hu
  · cases hu
theorem OwnM.bytes (w : World) (B : Nat) (e : TypeId) (s : ByteArray) (hB : B ≤ w.heap.size) (h : s.size ≤ 1099511627776) : OwnM (Lib.bytesWorld w e s) B e (.slice (some ⟨w.heap.size, 0, none⟩) s.size (grownCap w s.size 0 e)) s.size (ints .u8 (natsOf s)) := by
  have hge := grownCap_ge w s.size 0 e
  have hsz : (Lib.bytesCells w e s).size = grownCap w s.size 0 e := by
    unfold Lib.bytesCells
    have : s.data.size = s.size := rfl
    rw [Array.size_append, Array.size_map, Array.size_replicate, this]
    omega
  refine ⟨by rw [ints_len, natsOf_len], _, _, _, _, rfl, hB, Lib.bytesWorld_at_new w e s, fun j hj hh => by omega, hge, grownCap_le_maxLen _ _ _ _ (by unfold maxLen; omega), hsz, ?_⟩
  unfold Lib.bytesCells
  rw [Array.toList_append, List.take_append_of_le_length (by rw [Array.length_toList, Array.size_map]; exact Nat.le_refl _), List.take_of_length_le (by rw [Array.length_toList, Array.size_map]; exact Nat.le_refl _)]
  simp [ints, natsOf]
theorem run_storeCells_atM (P : Program) (g o : Nat) (t : TypeId) (fz : Nat × Nat) : ∀ (vs : List Value) (i : Nat) (cur : Array Value) (w : World), w.heap[g]? = some (.cells cur t fz) → (∀ j, j < cur.size → ¬ (fz.1 ≤ j ∧ j < fz.2)) → o + i + vs.length ≤ cur.size → (∀ v ∈ vs, v.oneCell' = true) →
    (storeCells ⟨g, o, none⟩ vs i).run P w = .ok () (w.setRow g (cur.toList.take (o + i) ++ vs ++ cur.toList.drop (o + i + vs.length)).toArray)
  | [], i, cur, w, hg, _, _, _ => by
    simp only [storeCells, List.append_nil, List.length_nil, Nat.add_zero, List.take_append_drop, Array.toArray_toList]
    rw [setRow_self w g cur t fz hg]
    rfl
  | v :: rest, i, cur, w, hg, hfz, hl, h1 => by
    have hi : o + i < cur.size := by simp at hl; omega
    have hadd : (⟨g, o, none⟩ : Addr).add i = ⟨g, o + i, none⟩ := by unfold Addr.add; split <;> simp_all
    have hcell : w.cell? ⟨g, o + i, none⟩ = some cur[o + i] := by simp [World.cell?, hg, hi]
    have hfro : w.frozen? ⟨g, o + i, none⟩ = false := by
      have hn := hfz (o + i) hi
      obtain ⟨lo, hi'⟩ := fz
      simp only [World.frozen?, hg, Bool.and_eq_false_iff, decide_eq_false_iff_not]
      by_cases hc : lo ≤ o + i
      · right
        intro hh
        exact hn ⟨hc, hh⟩
      · exact .inl hc
    have hst : (store ((⟨g, o, none⟩ : Addr).add i) v).run P w = .ok () (w.setRow g (cur.setIfInBounds (o + i) v)) := by
      rw [hadd, run_store P w _ v _ (h1 v (by simp)), hcell]
      simp [hfro, setCell_eq_setRow w g (o + i) cur t fz v hg]
    have ih := run_storeCells_atM P g o t fz rest (i + 1) (cur.setIfInBounds (o + i) v) (w.setRow g (cur.setIfInBounds (o + i) v)) (setRow_heap w g cur _ t _ hg) (by rw [Array.size_setIfInBounds]; exact hfz) (by simp at hl ⊢; omega) (fun x hx => h1 x (by simp [hx]))
    simp only [storeCells, Sem.run_bind, hst, Result.andThen_ok, ih, setRow_setRow]
    congr 3
    have e := list_seg_step cur.toList (o + i) v rest (by simp at hl ⊢; omega)
    simpa [Array.toList_setIfInBounds, Nat.add_assoc] using e
/-- 'append(b, c, d, ..)' on such a row. -/
theorem wp_appM {P : Program} {o : Oper} {a : Act} {K' : Act → World → Prop} {Q : Exit → Act → World → Prop} {w : World} {t e : TypeId} {B : Nat} {z : Value} {bytes : Nat} (hT : SlT P t e z bytes)
    (s x : Operand) (ho : o.op = .call { callee := .builtin .append, args := #[s, x], argTypes := #[t, t] })
    {v : Value} {n : Nat} {xs : List Value} (hown : OwnM w B e v n xs) (hB : B ≤ w.heap.size) {ad : Addr} {m c : Nat} (news : List Value) (hs : a.eval s = v) (hx : a.eval x = .slice (some ad) m c)
    (hl : news.length = m) (hnews : ∀ j u, news[j]? = some u → w.cell? (ad.add j) = some u) (h1 : ∀ u ∈ news, u.oneCell' = true) (hb : n + m ≤ 17592186044416) (hb' : (n + m) * bytes ≤ 140737488355328)
    (h : ∀ v' w', OwnM w' B e v' (n + m) (xs ++ news) → Below B w w' → K' (a.put o.dst v') w') : o.wp P a w K' Q := by
  obtain ⟨ht, i, hi, hz, hsz, hby, hzs⟩ := hT
  have hown' := hown
  obtain ⟨hxl, g, cap, cur, fz, rfl, hbg, hg, hfz, hnc, hcm, hcs, htake⟩ := hown
  have hlen : (xs ++ news).length = n + m := by rw [List.length_append, hxl, hl]
  have hsmall : n + m ≤ 9223372036854775807 := by omega
  subst hby
  by_cases hroom : n + m ≤ cap
  · have hf := run_firstCells_some (P := P) w 1 m ad m c news (by rw [hl, Nat.mul_one]) hnews
    have hst := run_storeCells_atM P g n e fz news 0 cur w hg hfz (by omega) h1
    simp only [Nat.add_zero] at hst
    have hr : (Builtin.append_ #[t, t] o.type #[.slice (some ⟨g, 0, none⟩) n cap, .slice (some ad) m c]).run P w =
        .ok (.slice (some ⟨g, 0, none⟩) (n + m) cap) (w.setRow g (cur.toList.take n ++ news ++ cur.toList.drop (n + news.length)).toArray) := by
      simp [Builtin.append_, run_underlying ht, sizeOf, typeInfo, hi, hsz, Builtin.lenOf, hroom, hf, Addr.add_lit, hst]
    unfold Oper.wp execOp
    simp only [ho, resolve, invoke, builtin, Sem.run_bind, Sem.run_pure, Result.andThen_ok, List.map_toArray, List.map_cons, List.map_nil, hs, hx, hr]
    refine h _ _ ⟨hlen, g, cap, _, fz, rfl, hbg, setRow_heap w g cur _ e _ hg, ?_, hroom, hcm, ?_, ?_⟩ ⟨rfl, rfl, rfl, by simp, fun k hk => setRow_other w g k _ (by omega)⟩
    · simp only [List.size_toArray, List.length_append, List.length_take, List.length_drop, Array.length_toList]
      intro j hj
      exact hfz j (by omega)
    · simp only [List.size_toArray, List.length_append, List.length_take, List.length_drop, Array.length_toList]
      omega
    · rw [htake, ← hlen]
      exact List.take_left
  · have holds : ∀ j u, xs[j]? = some u → w.cell? ((⟨g, 0, none⟩ : Addr).add j) = some u := fun j u hu => by
      have hadd : (⟨g, 0, none⟩ : Addr).add j = ⟨g, j, none⟩ := by unfold Addr.add; split <;> simp_all
      rw [hadd, cell_of_row w g j cur e fz hg]
      rw [← htake, List.getElem?_take] at hu
      split at hu
      · simpa using hu
      · cases hu
    have hr := run_append_grow (P := P) w t o.type e i z ht hi hz ⟨g, 0, none⟩ n cap xs (by rw [hxl, hsz, Nat.mul_one]) holds ad m c news (by rw [hl, hsz, Nat.mul_one]) hnews (by omega) (by omega) (growslice_fits (by omega) hb')
    have hge := grownCap_ge w (n + m) cap e
    have hcm2 : grownCap w (n + m) cap e ≤ maxLen := grownCap_le_maxLen w (n + m) cap e (by unfold maxLen; omega)
    unfold Oper.wp execOp
    simp only [ho, resolve, invoke, builtin, Sem.run_bind, Sem.run_pure, Result.andThen_ok, List.map_toArray, List.map_cons, List.map_nil, hs, hx, hr]
    refine h _ _ ⟨hlen, w.heap.size, _, _, _, rfl, hB, heap_alloc_new w.drew _, fun j hj hh => by simp at hh, hge, hcm2, ?_, ?_⟩ ⟨rfl, rfl, rfl, by simp, fun k hk => Below.heap_alloc w.drew _ k (by show k < w.heap.size; omega)⟩
    · simp only [Array.size_append, List.size_toArray, size_zeroCells, hzs, hxl, hl]
      omega
    · simp only [Array.toList_append, List.append_assoc]
      rw [← List.append_assoc, ← hlen]
      exact List.take_left

set_option maxRecDepth 100000 in
set_option maxHeartbeats 8000000 in
theorem d_Write (x y : Int) (a : Option Addr) (n c : Nat) (l : List Col) (w : World) (h : SlC w a n c l) :
    Calls Try.prog 72 #[rst x y a n c] w (RetWr w (wrL x y n l)) := by
  have hcv : ∀ (u : World) (s : ByteArray), (convert 9 86 (.string s)).run Try.prog u = .ok (.slice (some ⟨u.heap.size, 0, none⟩) s.size (grownCap u s.size 0 5)) (Lib.bytesWorld u 5 s) :=
    fun u s => Lib.run_convert_string_bytes u 9 86 5 s Try.underlying9 Try.underlying86 Try.underlying5
  have HL := hidP h.len
  have H := hidP h
  clear h
  have HM := hidP (fun u => d_May x y a n c u)
  cases hm : mayR x y n
  · have HR : Hid (wrL x y n l = none) := hidP (if_neg (by rw [hm]; decide))
    rw [hm] at HM
    clear hm
    generalize wrL x y n l = rr at *
    go_enter Try.func72, Try.ntmps72
    go_wp2_with fail
    refine absC (fun x1 hx1 => ?_)
    have hx : Ext w x1 := by rw [hx1]; exact ((Ext.refl _).alloc _)
    have bp : Bl x1 (w.heap.size) #[.int .i64 x, .int .i64 y, .slice a n c] := by rw [hx1]; exact (Bl.new (by simp))
    have HE := hx
    clear hx
    clear hx1
    refine (HM.out _).mono ?_
    rintro e u1 ⟨rfl, hx⟩
    replace bp := Bl.ext hx bp (Nat.succ_pos _)
    replace HE := HE.trans hx
    clear hx
    go_wp2_with fail
    go_ret2
    rw [HR.out]
    exact ⟨rfl, HE⟩
  · have HR : Hid (wrL x y n l = some (natsOf (headS x y) ++ colB l)) := hidP (if_pos hm)
    have hmm := of_decide_eq_true hm
    obtain ⟨m1, m2, m3, m4, m5⟩ := hmm
    have hbx := mul_box m1 m2 m3 m4
    obtain ⟨z1, z2⟩ := headS_size x y m1 m2 m3 m4
    rw [natsOf_len] at z1 z2
    have HH := hidP (fun u => d_Head x y u (by omega) (by omega) (by omega) (by omega))
    rw [hm] at HM
    have hn4 : n ≤ 4096 := by omega
    clear hm m5 hbx
    generalize wrL x y n l = rr at *
    generalize headS x y = hs at *
    have HC0 : Hid (colB (l.take 0) = []) := hidP (by simp [colB])
    go_enter Try.func72, Try.ntmps72
    go_wp2_with fail
    refine absC (fun x1 hx1 => ?_)
    have hx : Ext w x1 := by rw [hx1]; exact ((Ext.refl _).alloc _)
    have bp : Bl x1 (w.heap.size) #[.int .i64 x, .int .i64 y, .slice a n c] := by rw [hx1]; exact (Bl.new (by simp))
    have HE := hx
    clear hx
    clear hx1
    refine (HM.out _).mono ?_
    rintro e u1 ⟨rfl, hx⟩
    replace bp := Bl.ext hx bp (Nat.succ_pos _)
    replace HE := HE.trans hx
    clear hx
    go_wp2_with fail
    refine (HH.out _).mono ?_
    rintro e u2 ⟨rfl, hx⟩
    replace bp := Bl.ext hx bp (Nat.succ_pos _)
    replace HE := HE.trans hx
    clear hx
    have hB2 := bp.lt (Nat.succ_pos _)
    go_upto_region 4 with fail
    refine absW (fun x3 hx3 => ?_)
    have hx : Ext u2 x3 := by rw [hx3]; exact Ext.bytes _ _ _
    have hown0 : OwnM x3 (w.heap.size + 1) 5 (.slice (some ⟨u2.heap.size, 0, none⟩) hs.size (grownCap u2 hs.size 0 5)) hs.size (ints .u8 (natsOf hs)) := by rw [hx3]; exact OwnM.bytes _ _ _ _ hB2 (by omega)
    replace bp := Bl.ext hx bp (Nat.succ_pos _)
    replace HE := HE.trans hx
    clear hx hx3 hcv
    generalize (Value.slice (some ⟨u2.heap.size, 0, none⟩) hs.size (grownCap u2 hs.size 0 5)) = v0 at *
    go_wp2_with fail
    go_loopw [5, 4] (fun iv v wr => ∃ j : Nat, j ≤ n ∧ iv = .int .i64 (j : Int) ∧ OwnM wr (w.heap.size + 1) 5 v (hs.size + 4 * j) (ints .u8 (natsOf hs ++ colB (l.take j))) ∧ Bl wr w.heap.size #[.int .i64 x, .int .i64 y, .slice a n c] ∧ Ext w wr) (fun iv _ _ => n - (intOf iv).toNat)
    case atStart => exact ⟨0, by omega, rfl, by rw [HC0.out, List.append_nil]; exact hown0, bp, HE⟩
    case round =>
      clear hown0 bp HE
      obtain ⟨j, hj, rfl, hown, bp, HE⟩ := hrel
      by_cases hlt : j < n
      · have hlt0 := hlt
        have hown1 := hown
        obtain ⟨a4, c4, rfl, _⟩ := hown1.sl
        clear hown1
        obtain ⟨g, off, rfl, hc'⟩ := H.out.at (by omega)
        obtain ⟨h0, h1, h2, h3⟩ := hc' j (by rw [HL.out]; exact hlt)
        have hsn := colB_snoc (l := l) (j := j) (by rw [HL.out]; exact hlt)
        have hgl := cell_lt h0
        replace hgl : g < w.heap.size := hgl
        clear hc'
        replace h0 := HE.cell' h0; replace h1 := HE.cell' h1; replace h2 := HE.cell' h2; replace h3 := HE.cell' h3
        generalize l[j]'(by rw [HL.out]; exact hlt) = p at *
        obtain ⟨p0, p1, p2, p3⟩ := p
        simp only [] at h0 h1 h2 h3 hsn
        have HSN := hidP hsn
        clear hsn
        have hB := bp.lt (Nat.succ_pos _)
        replace hB : w.heap.size + 1 ≤ wr.heap.size := hB
        go_wp2_with fail
        refine wp_region_plan (R := Below (w.heap.size + 1)) (.q 0 (.q 1 (.q 2 (.q 3 (.q 4 (.q 5 (.q 6 (.q 7 (.q 8 (.q 9 (.q 10 (.q 11 (.q 12 (.q 13 (.q 14 (.q 15 (.q 16 (.q 17 (.q 18 (.q 19 (.q 20 (.q 21 (.q 22 (.q 23 (.q 24 (.l 25 (.l 26 (.q 27 .done)))))))))))))))))))))))))))) (by kernel_rfl) (by kernel_rfl) (by kernel_rfl) (by kernel_rfl) (Below.refl _) (fun _ _ _ => Below.trans) ?_
        refine absE (fun x7 hx7 => ?_)
        have hx : Ext wr x7 := by rw [hx7]; exact (Ext.refl _).drew
        replace hown := OwnM.ext hown hx
        replace bp := Bl.ext hx bp (Nat.succ_pos _)
        replace h0 := hx.cell' h0; replace h1 := hx.cell' h1; replace h2 := hx.cell' h2; replace h3 := hx.cell' h3
        replace hB := Nat.le_trans hB hx.size
        replace HE := HE.trans hx
        clear hx hx7
        repeat (refine wpE_q (v := ?_) rfl rfl (fun u hu => ?_) ?_; rotate_left 1; (focus (have kp := Bl.lowB hu bp (by omega); have k0 := low_cell hu h0 (by omega); have k1 := low_cell hu h1 (by omega); have k2 := low_cell hu h2 (by omega); have k3 := low_cell hu h3 (by omega); go_simp; (try rfl))); simp only [Act.put, List.setIfInBounds_toArray, List.set_cons_zero, List.set_cons_succ])
        refine wpE_l rfl rfl (fun K hK => ?_)
        go_simp
        refine hK.out _ _ ((Below.refl _ _).alloc hB _) ?_
        clear hK K
        try simp only [Act.put, List.setIfInBounds_toArray, List.set_cons_zero, List.set_cons_succ]
        refine wpE_l rfl rfl (fun K hK => ?_)
        refine wp_appM (ad := ⟨x7.heap.size, 0, none⟩) (m := 4) T_u8 _ _ rfl (hown.ext ((Ext.refl _).alloc _)) (Nat.le_trans hB (by simp)) [.int .u8 (p0 : Int), .int .u8 (p1 : Int), .int .u8 (p2 : Int), .int .u8 (p3 : Int)] rfl rfl rfl (news4 _ _ _ _ _ _) (ends_c4 p0 p1 p2 p3) (by omega) (by omega) ?_
        intro v2 w2 hown2 hlow0
        refine hK.out _ _ hlow0 ?_
        clear hK K
        try simp only [Act.put, List.setIfInBounds_toArray, List.set_cons_zero, List.set_cons_succ]
        have hlow : Below (w.heap.size + 1) x7 w2 := Below.trans ((Below.refl _ _).alloc hB _) hlow0
        clear hlow0
        have hown3 := hown2
        obtain ⟨a2, c2', rfl, _⟩ := hown3.sl
        clear hown3
        have bp2 := Bl.lowB hlow bp (by omega)
        repeat (refine wpE_q (v := ?_) rfl rfl (fun u hu => ?_) ?_; rotate_left 1; (focus (go_simp; (try rfl))); simp only [Act.put, List.setIfInBounds_toArray, List.set_cons_zero, List.set_cons_succ])
        refine wpE_done ?_
        go_wp2_with fail
        go_roundw
        case rel =>
          refine ⟨j + 1, by omega, by go_num, ?_, bp2, Below.trans HE (hlow.mono (by omega))⟩
          rw [HSN.out, ← List.append_assoc]
          have e : ints .u8 ((natsOf hs ++ colB (l.take j)) ++ [p0, p1, p2, p3]) = ints .u8 (natsOf hs ++ colB (l.take j)) ++ [.int .u8 (p0 : Int), .int .u8 (p1 : Int), .int .u8 (p2 : Int), .int .u8 (p3 : Int)] := by simp [ints]
          rw [e]
          exact hown2
        case measure => simp only [intOf]; omega
      · obtain rfl : j = n := by omega
        obtain ⟨a5, c5, rfl, hS⟩ := hown.sl
        have HSS := hidP hS
        clear hown hS
        go_wp2_with fail
        go_ret2
        rw [HR.out]
        refine ⟨_, _, _, rfl, ?_, HE⟩
        have := HSS.out
        rw [List.take_of_length_le (by rw [HL.out]; omega)] at this
        exact this

end Go.Proofs.Ytogcmnagiepofaa
