/- A line's words: the program's. -/
import Derived.Test.YtlhaepcnhkaclaaDoorX2
import Derived.WalkKit
namespace Go.Proofs.YtlhaepcnhkaclaaDoor
set_option linter.unusedVariables false
set_option linter.unusedSimpArgs false
open Go Go.RowKit

theorem drewN_ext {w u : World} (h : Ext w u) (q : Nat) : Ext w (u.drewN q) := h.drewN q
theorem add_plain (g o i : Nat) : (⟨g, o, none⟩ : Addr).add i = ⟨g, o + i, none⟩ := by
  unfold Addr.add
  by_cases h : i = 0
  · subst h; simp
  · simp [h]
theorem plain_add {a : Addr} {g o off len : Nat} (h : ∀ i, i < len → a.add i = (⟨g, o, none⟩ : Addr).add (off + i)) (h0 : 0 < len) : a = ⟨g, o + off, none⟩ := by
  have := h 0 h0
  rw [add_plain, Nat.add_zero] at this
  have e : a.add 0 = a := by simp [Addr.add]
  rw [e] at this
  exact this
/-- A row of slices of bytes, its pieces given. -/
def RowsB (w : World) (g : Nat) (ps : List (List Nat)) : Prop := ∀ j (hj : j < ps.length), ∃ a n c, w.cell? ⟨g, j, none⟩ = some (.slice a n c) ∧ Sl w a n c (ints .u8 ps[j])
theorem RowsB.ext {w u : World} {g : Nat} {ps : List (List Nat)} (h : RowsB w g ps) (he : Ext w u) : RowsB u g ps := fun j hj => by
  obtain ⟨a, n, c, h1, h2⟩ := h j hj
  exact ⟨a, n, c, he.cell' h1, h2.ext he⟩
theorem sl_bytes {w : World} {g o n c : Nat} {l : List Nat} (h : Sl w (some ⟨g, o, none⟩) n c (ints .u8 l)) : ∀ i, i < n → w.cell? ⟨g, o + i, none⟩ = some (.int .u8 ((zsN l).getD i 0)) := fun i hi => by
  have hl := h.int_len
  obtain ⟨g', o', e, hc⟩ := h.2.2.2 (by omega)
  cases e
  rw [zsN_get l i (by omega)]
  exact hc i _ (by simp [ints, List.getElem?_map, List.getElem?_eq_getElem (show i < l.length by omega)])
theorem map_ofNat {p : List Nat} (h : ∀ x ∈ p, x ≤ 255) (i : Nat) (hi : i < p.length) : ((p.map UInt8.ofNat)[i]'(by simpa using hi)).toNat = p[i] := by
  have := h p[i] (List.getElem_mem hi)
  rw [List.getElem_map, UInt8.toNat_ofNat']
  omega
theorem take_map {p : List Nat} {l : List Nat} {off len : Nat} (hl : ∀ x ∈ l, x ≤ 255) (hp : ∀ x ∈ p, x ≤ 255) (h : p.map UInt8.ofNat = ((l.map UInt8.ofNat).drop off).take len) (ho : off + len ≤ l.length) : p.length = len ∧ ∀ i (hi : i < len), l[off + i]'(by omega) = p.getD i 0 := by
  have e : p.length = len := by
    have := congrArg List.length h
    simp at this
    omega
  refine ⟨e, fun i hi => ?_⟩
  have h1 := congrArg (fun z : List UInt8 => z[i]?) h
  rw [List.getElem?_map, List.getElem?_take, if_pos hi, List.getElem?_drop, List.getElem?_map, List.getElem?_eq_getElem (show i < p.length by omega), List.getElem?_eq_getElem (show off + i < l.length by omega)] at h1
  simp only [Option.map_some, Option.some.injEq] at h1
  have h2 := congrArg UInt8.toNat h1
  have a1 := hp p[i] (List.getElem_mem _)
  have a2 := hl l[off + i] (List.getElem_mem _)
  rw [UInt8.toNat_ofNat', UInt8.toNat_ofNat'] at h2
  rw [List.getD_eq_getElem?_getD, List.getElem?_eq_getElem (show i < p.length by omega)]
  simp only [Option.getD_some]
  omega
theorem indexByte_len (v : UInt8) : ∀ l : List UInt8, Lib.indexByte l v ≤ (l.length : Int) - 1
  | [] => by simp [Lib.indexByte]
  | x :: t => by
    have ih := indexByte_len v t
    unfold Lib.indexByte
    split
    · simp
    · split
      · simp
      · simp; omega
theorem splitV_cap (v : UInt8) : ∀ (k : Nat) (a : Addr) (cap : Nat) (l : List UInt8), l.length ≤ cap → ∀ u ∈ Lib.splitV [v] 0 k a cap l, ∃ a' n m, u = .slice a' n m ∧ m ≤ cap
  | 0, a, cap, l, _, u, hu => by
    simp only [Lib.splitV, List.mem_singleton] at hu
    exact ⟨_, _, _, hu, Nat.le_refl _⟩
  | k + 1, a, cap, l, hl, u, hu => by
    unfold Lib.splitV at hu
    have hi := indexByte_len v l
    rw [Lib.index_one] at hu
    generalize Lib.indexByte l v = ix at *
    split at hu
    · rw [List.mem_singleton] at hu
      exact ⟨_, _, _, hu, Nat.le_refl _⟩
    · rcases List.mem_cons.1 hu with hu | hu
      · exact ⟨_, _, _, hu, by omega⟩
      · obtain ⟨a', n, m, h1, h2⟩ := splitV_cap v k _ _ _ (by rw [List.length_drop]; simp; omega) u hu
        exact ⟨a', n, m, h1, by omega⟩
set_option maxRecDepth 100000 in
set_option maxHeartbeats 4000000 in
theorem x_Split (g o n c b2 o2 d : Nat) (l : List Nat) (w : World) (h : Sl w (some ⟨g, o, none⟩) n c (ints .u8 l)) (hl : ∀ x ∈ l, x ≤ 255) (hn : n ≤ 4096) (hc2 : w.cell? ⟨b2, o2, none⟩ = some (.int .u8 32)) :
    Calls Tryd.prog 42 #[.slice (some ⟨g, o, none⟩) n c, .slice (some ⟨b2, o2, none⟩) 1 d] w (fun e w' => ∃ N, e = .returned (.slice (some ⟨w.heap.size, 0, none⟩) (splitL 32 l).length N) ∧ RowsB w' w.heap.size (splitL 32 l) ∧ Ext w w') := by
  have hlen := h.int_len
  have hcap := h.2.1
  have hmx := h.2.2.1
  unfold maxLen at hmx
  have hcell := sl_bytes h
  have h32 : (([32] : List Nat).map UInt8.ofNat) = [UInt8.ofNat 32] := rfl
  have hcnt : Lib.count (Lib.bytesOf (zsN l)) [UInt8.ofNat 32] = l.count 32 := by rw [Lib.count_one, zsN_bytes, count_bytes hl (by omega)]
  have hcl : l.count 32 ≤ n := by rw [← hlen]; exact List.count_le_length
  have c0 := Any.bytes_genSplit_core Tryd.laysSlP11 ⟨g, o, none⟩ ⟨b2, o2, none⟩ n c 1 d (zsN l) [UInt8.ofNat 32] 0 (-1) (l.count 32 + 1) w (by rw [zsN_len]; exact hlen) (zsN_in hl) (fun i hi => by rw [add_plain]; exact hcell i hi) hcap (by omega) (by omega) (by omega) (by omega) rfl (by omega)
    (fun a zs ln cap q cs hz hrz hcz hcp hln => (Tryd.bytes_Index_one_at a ln cap b2 o2 d zs 32 _ hz (fun i hi => by rw [World.cell?_drewN]; exact Lib.cell?_alloc_marked _ (hcz i hi)) (by rw [World.cell?_drewN]; exact Lib.cell?_alloc_marked _ hc2)).mono fun e w' ⟨he, hw⟩ => ⟨by rw [he, Lib.index_one]; rfl, q, hw⟩)
    ((Tryd.bytes_Count_one_at ⟨g, o, none⟩ n c b2 o2 d (zsN l) 32 w (by rw [zsN_len]; exact hlen) (fun i hi => by rw [add_plain]; exact hcell i hi) hc2).mono fun e w' ⟨he, hw⟩ => ⟨by
      rw [he, Lib.count_one]; rfl, 0, hw⟩)
    (by omega) (by omega) (by rw [hcnt, if_pos (by omega)]; omega)
  rw [Nat.add_sub_cancel] at c0
  have hvl : (Lib.splitV [UInt8.ofNat 32] 0 (l.count 32) ⟨g, o, none⟩ c (Lib.bytesOf (zsN l))).length = (splitL 32 l).length := by
    rw [Lib.splitV_length, zsN_bytes, splitK_L (by omega) _ l hl rfl, List.length_map]
  have hsp := Lib.splitV_spec [UInt8.ofNat 32] 0 (by simp) (by simp) (l.count 32) ⟨g, o, none⟩ c (Lib.bytesOf (zsN l)) (by rw [zsN_bytes]; simp; omega)
  rw [zsN_bytes, splitK_L (by omega) _ l hl rfl] at hsp
  have hcp := splitV_cap (UInt8.ofNat 32) (l.count 32) ⟨g, o, none⟩ c (l.map UInt8.ofNat) (by simp; omega)
  rw [hvl] at c0
  have e2 : Lib.cellsOfV (Lib.splitV [UInt8.ofNat 32] 0 (l.count 32) ⟨g, o, none⟩ c (Lib.bytesOf (zsN l))) (l.count 32 + 1) = (Lib.splitV [UInt8.ofNat 32] 0 (l.count 32) ⟨g, o, none⟩ c (Lib.bytesOf (zsN l))).toArray := by
    have := splitL_len 32 l
    rw [← this, ← hvl]
    exact Lib.cellsOfV_full _
  rw [e2, zsN_bytes] at c0
  rw [zsN_bytes] at hvl
  generalize Lib.splitV [UInt8.ofNat 32] 0 (l.count 32) ⟨g, o, none⟩ c (l.map UInt8.ofNat) = vs at *
  have HP := hidP (splitL_le (v := 32) hl)
  generalize hps : splitL 32 l = ps at *
  have hrow : ∀ q, RowsB ((w.alloc (.cells vs.toArray 22)).drewN q) w.heap.size ps := fun q j hj => by
    obtain ⟨a', off, len, cp, hv, h1, h2, h3, h4⟩ := hsp j _ (List.getElem?_eq_getElem (by rw [hvl]; exact hj))
    rw [List.getElem?_map, List.getElem?_eq_getElem hj, Option.map_some, Option.some.injEq] at h3
    obtain ⟨h5, h6⟩ := take_map hl (HP.out _ (List.getElem_mem hj)) h3 (by simpa using h2)
    have hoff : off + len ≤ n := by rw [← hlen]; simpa using h2
    refine ⟨some a', len, cp, ?_, ?_⟩
    · rw [World.cell?_drewN, ← hv]
      have := Bl.new (w := w) (cs := vs.toArray) (e := 22) rfl
      rw [this j]
      simp
    · refine ⟨by rw [ints_len]; exact h5, h1, ?_, fun h0 => ?_⟩
      · obtain ⟨_, _, m', e, hm'⟩ := hcp _ (List.getElem_mem (show j < vs.length by rw [hvl]; exact hj))
        rw [hv] at e
        cases e
        unfold maxLen
        omega
      · have ha := plain_add h4 h0
        subst ha
        refine ⟨g, o + off, rfl, fun i u hu => ?_⟩
        have hi : i < len := by
          have := (List.getElem?_eq_some_iff.1 hu).1
          rw [ints_len] at this
          omega
        have := hcell (off + i) (by omega)
        rw [zsN_get l (off + i) (by omega), h6 i hi] at this
        rw [World.cell?_drewN, Nat.add_assoc]
        refine (Lib.cell?_alloc_marked _ this).trans ?_
        rw [← hu]
        simp [ints, List.getElem?_map, List.getElem?_eq_getElem (show i < ps[j].length by omega), List.getD_eq_getElem?_getD]
  have HR := hidP hrow
  have C := hidP c0
  clear hrow hsp c0 hcell h hvl hps e2 hcnt hcl HP hcp
  go_enter Tryd.func42, Tryd.ntmps42
  go_wp2_with fail
  refine C.out.mono ?_
  rintro e w' ⟨rfl, q, rfl⟩
  go_wp2_with fail
  go_ret
  exact ⟨_, rfl, HR.out q, ((Ext.refl _).alloc _).drewN q⟩

end Go.Proofs.YtlhaepcnhkaclaaDoor
