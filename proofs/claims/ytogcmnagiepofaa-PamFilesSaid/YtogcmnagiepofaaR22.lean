/- Rasters: the size that a file's lines tell. -/
import Derived.Test.YtogcmnagiepofaaR21
namespace Go.Proofs.Ytogcmnagiepofaa
set_option linter.unusedVariables false
set_option linter.unusedSimpArgs false
open Go Go.RowKit

def qP : List Nat := [80, 55, 10]
def qW : List Nat := [87, 73, 68, 84, 72, 32]
def qH : List Nat := [72, 69, 73, 71, 72, 84, 32]
def qT : List Nat := [68, 69, 80, 84, 72, 32, 52, 10, 77, 65, 88, 86, 65, 76, 32, 50, 53, 53, 10, 84, 85, 80, 76, 84, 89, 80, 69, 32, 82, 71, 66, 95, 65, 76, 80, 72, 65, 10, 69, 78, 68, 72, 68, 82, 10]
theorem natsOf_append (s t : ByteArray) : natsOf (s ++ t) = natsOf s ++ natsOf t := by
  unfold natsOf
  rw [ByteArray.data_append, Array.toList_append, List.map_append]
theorem head_list (p q : Int) : natsOf (headS p q) = qP ++ (qW ++ (numL p ++ 10 :: (qH ++ (numL q ++ 10 :: qT)))) := by
  unfold headS
  rw [natsOf_append, natsOf_append, natsOf_append, natsOf_append, textZ_eq, textZ_eq, natsOf_bytesOf _ (numL_le p), natsOf_bytesOf _ (numL_le q)]
  simp [natsOf, qP, qW, qH, qT]
theorem range_key (A B : Prop) [Decidable A] [Decidable B] (n : Int) (hB : B → 1 ≤ n ∧ n ≤ 64) : ((if A then ((0 : Int), (3 : Nat)) else if B then (n, 0) else (0, 4))).2 = 0 → 1 ≤ ((if A then ((0 : Int), (3 : Nat)) else if B then (n, 0) else (0, 4))).1 ∧ ((if A then ((0 : Int), (3 : Nat)) else if B then (n, 0) else (0, 4))).1 ≤ 64 := by
  by_cases hA : A
  · rw [if_pos hA]; intro h; cases h
  · rw [if_neg hA]
    by_cases hb : B
    · rw [if_pos hb]; intro _; exact hB hb
    · rw [if_neg hb]; intro h; cases h
theorem readL_range {l : List Nat} (h : (readL l 1 64).2 = 0) : 1 ≤ (readL l 1 64).1 ∧ (readL l 1 64).1 ≤ 64 :=
  range_key _ _ _ (fun hb => hb.2) h
theorem num_small : ((List.range 65).all fun p => p == 0 || (decide (readL (numL (p : Int)) 1 64 = ((p : Int), 0)) && decide (¬ 10 ∈ numL (p : Int)))) = true := by decide +kernel
theorem num_read {p : Int} (h1 : 1 ≤ p) (h2 : p ≤ 64) : readL (numL p) 1 64 = (p, 0) ∧ ¬ 10 ∈ numL p := by
  obtain ⟨k, rfl⟩ : ∃ k : Nat, p = (k : Int) := ⟨p.toNat, by omega⟩
  have := List.all_eq_true.1 num_small k (List.mem_range.2 (by omega))
  simp only [Bool.or_eq_true, Bool.and_eq_true, beq_iff_eq, decide_eq_true_eq] at this
  rcases this with h | h
  · omega
  · exact h
/-- The file begins with the lines of a size. -/
def Heads (l : List Nat) (p q : Int) : Prop := 1 ≤ p ∧ p ≤ 64 ∧ 1 ≤ q ∧ q ≤ 64 ∧ natsOf (headS p q) <+: l
theorem heads_parts {l : List Nat} {p q : Int} (h : Heads l p q) : ∃ r1 r2 t, l = qP ++ r1 ∧ numOk qW r1 (numL p) r2 ∧ numOk qH r2 (numL q) t ∧ readL (numL p) 1 64 = (p, 0) ∧ readL (numL q) 1 64 = (q, 0) := by
  obtain ⟨h1, h2, h3, h4, t, rfl⟩ := h
  obtain ⟨a1, a2⟩ := num_read h1 h2
  obtain ⟨b1, b2⟩ := num_read h3 h4
  refine ⟨qW ++ (numL p ++ 10 :: (qH ++ (numL q ++ 10 :: (qT ++ t)))), qH ++ (numL q ++ 10 :: (qT ++ t)), qT ++ t, ?_, ⟨rfl, a2, by rw [a1]⟩, ⟨rfl, b2, by rw [b1]⟩, a1, b1⟩
  rw [head_list]
  simp
theorem numOk_same {q b line line' r r' : List Nat} (h : numOk q b line r) (h' : numOk q b line' r') : line = line' ∧ r = r' := by
  obtain ⟨h1, h2, _⟩ := h
  obtain ⟨h3, h4, _⟩ := h'
  exact first_at _ _ _ _ h2 h4 (List.append_cancel_left (h1.symm.trans h3))
theorem noP {l : List Nat} (h : ¬ qP <+: l) (p q : Int) : ¬ Heads l p q := fun hh => by
  obtain ⟨r1, r2, t, e, _⟩ := heads_parts hh
  exact h (by rw [e]; exact List.prefix_append _ _)
theorem noW {r1 : List Nat} (h : ∀ line rest, ¬ numOk qW r1 line rest) (p q : Int) : ¬ Heads (qP ++ r1) p q := fun hh => by
  obtain ⟨r1', r2, t, e, h1, _⟩ := heads_parts hh
  rw [← List.append_cancel_left e] at h1
  exact h _ _ h1
theorem noH {r1 r2 line : List Nat} (hw : numOk qW r1 line r2) (h : ∀ line rest, ¬ numOk qH r2 line rest) (p q : Int) : ¬ Heads (qP ++ r1) p q := fun hh => by
  obtain ⟨r1', r2', t, e, h1, h2, _⟩ := heads_parts hh
  rw [← List.append_cancel_left e] at h1
  rw [← (numOk_same hw h1).2] at h2
  exact h _ _ h2
theorem only {r1 r2 r3 line line2 : List Nat} (hw : numOk qW r1 line r2) (hh : numOk qH r2 line2 r3) {p q : Int} (h : Heads (qP ++ r1) p q) : p = (readL line 1 64).1 ∧ q = (readL line2 1 64).1 := by
  obtain ⟨r1', r2', t, e, h1, h2, e1, e2⟩ := heads_parts h
  rw [← List.append_cancel_left e] at h1
  obtain ⟨g1, g2⟩ := numOk_same hw h1
  rw [← g2] at h2
  obtain ⟨g3, _⟩ := numOk_same hh h2
  rw [g1, g3, e1, e2]
  exact ⟨rfl, rfl⟩
/-- What size answers. -/
def RetSize (w : World) (l : List Nat) (e : Ending) (w' : World) : Prop :=
  Ext w w' ∧ ((∃ p q rest g2 o2 n2 c2, Heads l p q ∧ l = natsOf (headS p q) ++ rest ∧ e = .returned (.tuple #[.int .i64 p, .int .i64 q, .slice (some ⟨g2, o2, none⟩) n2 c2, .bool true]) ∧ Sl w' (some ⟨g2, o2, none⟩) n2 c2 (ints .u8 rest)) ∨
    ((∀ p q, ¬ Heads l p q) ∧ ∃ p q a2 n2 c2, e = .returned (.tuple #[.int .i64 p, .int .i64 q, .slice a2 n2 c2, .bool false])))
theorem bodyPost_tmp4 {P : Program} {fn : Func} {R : Ending → World → Prop} {a : Act} {w : World} {t0 t1 t2 t3 : Tmp} (h : fn.results = #[.tmp t0, .tmp t1, .tmp t2, .tmp t3]) (hdef : a.defers = []) (hR : R (.returned (.tuple #[a.tmps.getD t0 undef, a.tmps.getD t1 undef, a.tmps.getD t2 undef, a.tmps.getD t3 undef])) w) : bodyPost P fn R .ret a w :=
  bodyPost_ret (v := .tuple #[a.tmps.getD t0 undef, a.tmps.getD t1 undef, a.tmps.getD t2 undef, a.tmps.getD t3 undef]) (by simp [results, h]) hdef hR

theorem mark_ext (w : World) (cs : Array Value) (e : TypeId) (k : Nat) : Ext w ((w.alloc (.cells cs e)).freeze ⟨w.heap.size, k, none⟩ 1) := by
  refine ⟨?_, ?_, ?_, ?_, fun j hj => ?_⟩
  · unfold World.freeze; rw [if_neg (by decide)]; rfl
  · unfold World.freeze; rw [if_neg (by decide)]; rfl
  · unfold World.freeze; rw [if_neg (by decide)]; rfl
  · simp [World.freeze, World.alloc, -World.alloc_eq]
  · have h1 : w.heap.size ≠ j := by omega
    simp [World.freeze, World.alloc, -World.alloc_eq, Array.getElem?_modify, Array.getElem?_push, h1, Ne.symm h1]
theorem mark_cell (w : World) (cs : Array Value) (e : TypeId) (k j : Nat) : ((w.alloc (.cells cs e)).freeze ⟨w.heap.size, k, none⟩ 1).cell? ⟨w.heap.size, j, none⟩ = cs[j]? := by
  have h : ((w.alloc (.cells cs e)).freeze ⟨w.heap.size, k, none⟩ 1).heap[w.heap.size]? = some (.cells cs e (k, k + 1)) := by
    simp [World.freeze, World.alloc, -World.alloc_eq]
    rw [Array.getElem_modify_self]
    simp
  simp [World.cell?, h]
/-- '[]byte(b)' of a row that was just written out: it is marked. -/
theorem conv_mark (u : World) (cs : Array Value) (n : Nat) (hn : cs.size = n) : (convert 86 86 (.slice (some ⟨u.heap.size, 0, none⟩) n n)).run Try.prog (u.alloc (.cells cs 5)) = .ok (.slice (some ⟨u.heap.size, 0, none⟩) n n) ((u.alloc (.cells cs 5)).freeze ⟨u.heap.size, n, none⟩ 1) := by
  have hsh : (u.alloc (.cells cs 5)).shape? u.heap.size = some (5, n) := by
    simp [World.shape?, World.alloc, -World.alloc_eq, hn]
  simp [convert, run_underlying Try.underlying86, run_underlying Try.underlying5, markStringish, hsh, Result.andThen]

set_option maxRecDepth 100000 in
set_option maxHeartbeats 8000000 in
theorem p_size (a : Option Addr) (n c : Nat) (l : List Nat) (w : World) (h : Sl w a n c (ints .u8 l)) (hl : ∀ x ∈ l, x ≤ 255) (hn : n ≤ 9223372036854775807) :
    Calls Try.prog 112 #[.slice a n c] w (RetSize w l) := by
  have H := hidP h
  have HLL := hidP hl
  have hlen := h.int_len
  have HLN := hidP hlen
  have HNW := hidP (fun (g o i j : Nat) (u : World) (r : List Nat) (t : Sl u (some ⟨g, o, none⟩) i j (ints .u8 r)) (hr : ∀ x ∈ r, x ≤ 255) (hi : i ≤ 9223372036854775807) => p_number ⟨#[87, 73, 68, 84, 72, 32]⟩ g o i j r u t hr hi (by decide) (by decide))
  have HNH := hidP (fun (g o i j : Nat) (u : World) (r : List Nat) (t : Sl u (some ⟨g, o, none⟩) i j (ints .u8 r)) (hr : ∀ x ∈ r, x ≤ 255) (hi : i ≤ 9223372036854775807) => p_number ⟨#[72, 69, 73, 71, 72, 84, 32]⟩ g o i j r u t hr hi (by decide) (by decide))
  rw [show natsOf ⟨#[87, 73, 68, 84, 72, 32]⟩ = qW from rfl] at HNW
  rw [show natsOf ⟨#[72, 69, 73, 71, 72, 84, 32]⟩ = qH from rfl] at HNH
  have hcvs : ∀ (u : World), (convert 86 86 (.slice (some ⟨u.heap.size, 0, none⟩) 3 3)).run Try.prog (u.alloc (.cells #[.int .u8 80, .int .u8 55, .int .u8 10] 5)) = .ok (.slice (some ⟨u.heap.size, 0, none⟩) 3 3) ((u.alloc (.cells #[.int .u8 80, .int .u8 55, .int .u8 10] 5)).freeze ⟨u.heap.size, 3, none⟩ 1) := fun u => conv_mark u _ 3 rfl
  clear h hl hlen
  go_enter Try.func112, Try.ntmps112
  go_wp2_with fail
  refine wp_scope_straight ?_
  go_wp2_with fail
  refine wp_label ?_
  go_wp2_with fail
  go_loopw [6, 7, 9, 15] (fun wv hv rv iv wr =>
    (iv = .int .i64 0 ∧ wv = .int .i64 0 ∧ hv = .int .i64 0 ∧ rv = .slice a n c ∧ Ext w wr) ∨
    (∃ r1 g1 o1 n1 c1, iv = .int .i64 1 ∧ wv = .int .i64 0 ∧ hv = .int .i64 0 ∧ rv = .slice (some ⟨g1, o1, none⟩) n1 c1 ∧ Hid (l = qP ++ r1) ∧ Hid (Sl wr (some ⟨g1, o1, none⟩) n1 c1 (ints .u8 r1)) ∧ Ext w wr) ∨
    (∃ r1 line r2 g1 o1 n1 c1, iv = .int .i64 2 ∧ wv = .int .i64 (readL line 1 64).1 ∧ hv = .int .i64 0 ∧ rv = .slice (some ⟨g1, o1, none⟩) n1 c1 ∧ Hid (l = qP ++ r1) ∧ Hid (numOk qW r1 line r2) ∧ Hid (Sl wr (some ⟨g1, o1, none⟩) n1 c1 (ints .u8 r2)) ∧ Ext w wr) ∨
    (∃ r1 line r2 line2 r3 g1 o1 n1 c1, iv = .int .i64 3 ∧ wv = .int .i64 (readL line 1 64).1 ∧ hv = .int .i64 (readL line2 1 64).1 ∧ rv = .slice (some ⟨g1, o1, none⟩) n1 c1 ∧ Hid (l = qP ++ r1) ∧ Hid (numOk qW r1 line r2) ∧ Hid (numOk qH r2 line2 r3) ∧ Ext w wr)) (fun _ _ _ iv _ => 3 - (intOf iv).toNat)
  case atStart => exact .inl ⟨rfl, rfl, rfl, rfl, Ext.refl _⟩
  case round =>
    rcases hrel with ⟨rfl, rfl, rfl, rfl, HE⟩ | ⟨r1, g1, o1, n1, c1, rfl, rfl, rfl, rfl, HL1, HS1, HE⟩ | ⟨r1, line, r2, g1, o1, n1, c1, rfl, rfl, rfl, rfl, HL1, HW1, HS1, HE⟩ | ⟨r1, line, r2, line2, r3, g1, o1, n1, c1, rfl, rfl, rfl, rfl, HL1, HW1, HH1, HE⟩
    · go_wp2_with fail
      refine absC (fun x3 hx3 => ?_)
      have hx : Ext wr x3 := by rw [hx3]; exact mark_ext _ _ _ _
      have hq : Sl x3 (some ⟨wr.heap.size, 0, none⟩) 3 3 (ints .u8 qP) := ⟨rfl, Nat.le_refl _, by unfold maxLen; omega, fun _ => ⟨_, 0, rfl, fun i u hu => by
        rw [hx3, Nat.zero_add, mark_cell, ← hu]
        match i with
        | 0 => rfl
        | 1 => rfl
        | 2 => rfl
        | i + 3 => simp [ints, qP]⟩⟩
      clear hx3
      by_cases hp : qP <+: l
      · obtain ⟨r1, hr1⟩ := hp
        have hS := (H.out.ext HE).ext hx
        have hLL := HLL.out
        rw [← hr1] at hS hLL
        refine (b_CutPrefix_yes hS hq hLL (by decide)).mono ?_
        rintro e u2 ⟨rfl, g2, o2, n2, c2, rfl, hs3⟩
        replace HE := HE.trans hx
        have HS3 := hidP hs3
        have HR1 := hidP hr1
        clear hx hq hS hLL hs3 hr1
        go_wp2_with fail
        go_roundw
        case rel => exact .inr (.inl ⟨r1, g2, o2, n2, c2, by go_num, rfl, rfl, rfl, hidP HR1.out.symm, HS3, HE⟩)
        case measure => simp only [intOf]; omega
      · refine (b_CutPrefix_no ((H.out.ext HE).ext hx) hq HLL.out (by decide) hp).mono ?_
        rintro e u2 ⟨rfl, a2, n2, c2, rfl⟩
        replace HE := HE.trans hx
        have HNO := hidP (noP hp)
        clear hx hq hp
        go_wp2_with fail
        refine bodyPost_tmp4 rfl rfl ?_
        exact ⟨HE, .inr ⟨HNO.out, _, _, _, _, _, rfl⟩⟩
    · have hr1 : (∀ x ∈ r1, x ≤ 255) ∧ n1 ≤ 9223372036854775807 := by
        have h1 := HLL.out
        have h2 := HLN.out
        have h3 := HS1.out.int_len
        rw [HL1.out] at h1 h2
        rw [List.length_append] at h2
        exact ⟨fun x hx => h1 x (by simp [hx]), by omega⟩
      have HC := hidP (fun u t => HNW.out g1 o1 n1 c1 u r1 t hr1.1 hr1.2)
      clear hr1
      go_wp2_with fail
      refine (HC.out _ HS1.out).mono ?_
      rintro e u2 ⟨hx, ⟨line, rest, g2, o2, n2, c2, hok, rfl, hs3⟩ | ⟨hno, p, g2, o2, n2, c2, a2, ha2, rfl⟩⟩
      · replace HE := HE.trans hx
        have HOK := hidP hok; have HS3 := hidP hs3
        clear hx hok hs3
        go_wp2_with fail
        go_roundw
        case rel => exact .inr (.inr (.inl ⟨r1, line, rest, g2, o2, n2, c2, by go_num, rfl, rfl, rfl, HL1, HOK, HS3, HE⟩))
        case measure => simp only [intOf]; omega
      · replace HE := HE.trans hx
        have HNO : Hid (∀ p q, ¬ Heads l p q) := hidP (by rw [HL1.out]; exact noW hno)
        clear hx hno
        go_wp2_with fail
        refine bodyPost_tmp4 rfl rfl ?_
        exact ⟨HE, .inr ⟨HNO.out, _, _, _, _, _, rfl⟩⟩
    · have hr2 : (∀ x ∈ r2, x ≤ 255) ∧ n1 ≤ 9223372036854775807 := by
        have h1 := HLL.out
        have h2 := HLN.out
        have h3 := HS1.out.int_len
        rw [HL1.out, HW1.out.1] at h1 h2
        simp only [List.length_append, List.length_cons] at h2
        exact ⟨fun x hx => h1 x (by simp [hx]), by omega⟩
      have HC := hidP (fun u t => HNH.out g1 o1 n1 c1 u r2 t hr2.1 hr2.2)
      clear hr2
      go_wp2_with fail
      refine (HC.out _ HS1.out).mono ?_
      rintro e u2 ⟨hx, ⟨line2, rest, g2, o2, n2, c2, hok, rfl, hs3⟩ | ⟨hno, p, g2, o2, n2, c2, a2, ha2, rfl⟩⟩
      · replace HE := HE.trans hx
        have HOK := hidP hok
        clear hx hok hs3
        go_wp2_with fail
        go_roundw
        case rel => exact .inr (.inr (.inr ⟨r1, line, r2, line2, rest, g2, o2, n2, c2, by go_num, rfl, rfl, rfl, HL1, HW1, HOK, HE⟩))
        case measure => simp only [intOf]; omega
      · replace HE := HE.trans hx
        have HNO : Hid (∀ p q, ¬ Heads l p q) := hidP (by rw [HL1.out]; exact noH HW1.out hno)
        clear hx hno
        go_wp2_with fail
        refine bodyPost_tmp4 rfl rfl ?_
        exact ⟨HE, .inr ⟨HNO.out, _, _, _, _, _, rfl⟩⟩
    · obtain ⟨w1, w2⟩ := readL_range HW1.out.2.2
      obtain ⟨k1, k2⟩ := readL_range HH1.out.2.2
      have HON := hidP (fun p q (h : Heads l p q) => only HW1.out HH1.out (by rw [← HL1.out]; exact h))
      generalize (readL line 1 64).1 = p at *
      generalize (readL line2 1 64).1 = q at *
      have HHD := hidP (fun u => p_header p q u (by omega) (by omega) (by omega) (by omega))
      have hz1 : ((p : Int) == 0) = false := by simp; omega
      have hz2 : ((q : Int) == 0) = false := by simp; omega
      have hzl := (headS_size p q w1 w2 k1 k2).1
      have hle : ∀ x ∈ natsOf (headS p q), x ≤ 255 := natsOf_le _
      have HHE : Hid (Heads l p q ↔ natsOf (headS p q) <+: l) := hidP ⟨fun h => h.2.2.2.2, fun h => ⟨w1, w2, k1, k2, h⟩⟩
      go_wp2_with fail
      refine (HHD.out _).mono ?_
      rintro e u2 ⟨a2, n2, c2, rfl, hs2, hx⟩
      replace HE := HE.trans hx
      clear hx
      generalize hhd : natsOf (headS p q) = hd at *
      have HHDD := hidP hhd
      clear hhd
      have HS2 := hidP hs2
      clear hs2
      go_wp2_with fail
      by_cases hp : hd <+: l
      · obtain ⟨r, hr⟩ := hp
        have hS := H.out.ext HE
        have hLL := HLL.out
        rw [← hr] at hS hLL
        refine (b_CutPrefix_yes hS HS2.out hLL (by omega)).mono ?_
        rintro e u3 ⟨rfl, g3, o3, n3, c3, rfl, hs3⟩
        have HS3 := hidP hs3
        have HR1 := hidP hr
        have HHH := hidP (HHE.out.2 ⟨r, hr⟩)
        clear hS hLL hs3 hr
        go_wp2_with fail
        refine bodyPost_tmp4 rfl rfl ?_
        exact ⟨HE, .inl ⟨p, q, r, g3, o3, n3, c3, HHH.out, by rw [HHDD.out]; exact HR1.out.symm, rfl, HS3.out⟩⟩
      · refine (b_CutPrefix_no (H.out.ext HE) HS2.out HLL.out hle hp).mono ?_
        rintro e u3 ⟨rfl, a3, n3, c3, rfl⟩
        have HNO : Hid (∀ p q, ¬ Heads l p q) := hidP (fun p' q' hh => by
          obtain ⟨rfl, rfl⟩ := HON.out p' q' hh
          exact hp (HHE.out.1 hh))
        clear hp
        go_wp2_with fail
        refine bodyPost_tmp4 rfl rfl ?_
        exact ⟨HE, .inr ⟨HNO.out, _, _, _, _, _, rfl⟩⟩

end Go.Proofs.Ytogcmnagiepofaa
