/- Bytes: cutting off a prefix, cutting at a byte. -/
import Derived.Test.YtogcmnagiepofaaR18
import Derived.Test.YtogcmnagiepofaaShelf
import Derived.Lib.IndexLaws
namespace Go.Proofs.Ytogcmnagiepofaa
set_option linter.unusedVariables false
open Go Go.RowKit

/-- Numbers as the shelf has them. -/
def zs (l : List Nat) : List Int := l.map fun x : Nat => (x : Int)
theorem zs_len (l : List Nat) : (zs l).length = l.length := by simp [zs]
theorem zs_get (l : List Nat) (i : Nat) (h : i < l.length) : (zs l).getD i 0 = ((l[i] : Nat) : Int) := by
  rw [List.getD_eq_getElem?_getD]; simp [zs, h]
theorem zs_bytes (l : List Nat) : Lib.bytesOf (zs l) = l.map UInt8.ofNat := by
  unfold Lib.bytesOf zs
  rw [List.map_map]
  exact List.map_congr_left fun x _ => by simp
theorem bytesIn_of {w : World} {a : Option Addr} {n c : Nat} {l : List Nat} (h : Sl w a n c (ints .u8 l)) : Lib.BytesIn w a n (zs l) := fun hn => by
  obtain ⟨b, off, ha, hc⟩ := h.at_int hn
  exact ⟨b, off, ha, fun i hi => by rw [zs_get l i (by rw [h.int_len]; exact hi)]; exact hc i (by rw [h.int_len]; exact hi)⟩
theorem byte_inj {x y : Nat} (hx : x ≤ 255) (hy : y ≤ 255) (h : UInt8.ofNat x = UInt8.ofNat y) : x = y := by
  have := congrArg UInt8.toNat h
  simp at this
  omega
theorem bytes_inj : ∀ {l m : List Nat}, (∀ x ∈ l, x ≤ 255) → (∀ x ∈ m, x ≤ 255) → l.map UInt8.ofNat = m.map UInt8.ofNat → l = m
  | [], [], _, _, _ => rfl
  | [], y :: m, _, _, h => by simp at h
  | x :: l, [], _, _, h => by simp at h
  | x :: l, y :: m, hl, hm, h => by
    simp only [List.map_cons, List.cons.injEq] at h
    rw [byte_inj (hl x (by simp)) (hm y (by simp)) h.1, bytes_inj (fun z hz => hl z (by simp [hz])) (fun z hz => hm z (by simp [hz])) h.2]
theorem hasPrefix_iff {l p : List Nat} (hl : ∀ x ∈ l, x ≤ 255) (hp : ∀ x ∈ p, x ≤ 255) : Lib.hasPrefix (Lib.bytesOf (zs l)) (Lib.bytesOf (zs p)) = decide (p <+: l) := by
  rw [zs_bytes, zs_bytes]
  unfold Lib.hasPrefix
  rw [Bool.eq_iff_iff, decide_eq_true_iff, List.isPrefixOf_iff_prefix]
  constructor
  · intro h
    have h1 := List.prefix_iff_eq_take.1 h
    rw [List.length_map] at h1
    rw [← List.map_take] at h1
    have := bytes_inj hp (fun x hx => hl x (List.mem_of_mem_take hx)) h1
    rw [this]
    exact List.take_prefix _ _
  · rintro ⟨t, rfl⟩
    rw [List.map_append]
    exact List.prefix_append _ _
/-- What is behind so many bytes. -/
theorem Sl.from {w : World} {b off n c k : Nat} {l : List Nat} (h : Sl w (some ⟨b, off, none⟩) n c (ints .u8 l)) (hk : k ≤ n) : ∃ g o, Lib.sliceFrom b off n c k = .slice (some ⟨g, o, none⟩) (n - k) (c - k) ∧ Sl w (some ⟨g, o, none⟩) (n - k) (c - k) (ints .u8 (l.drop k)) := by
  obtain ⟨g, o, hgo⟩ : ∃ g o, (if c = k then some (⟨b, off, none⟩ : Addr) else some ⟨b, off + k, none⟩) = some ⟨g, o, none⟩ := by split <;> exact ⟨_, _, rfl⟩
  refine ⟨g, o, by unfold Lib.sliceFrom; rw [hgo], ?_⟩
  have hl := h.int_len
  refine ⟨by rw [ints_len, List.length_drop, hl], by have := h.2.1; omega, by have := h.2.2.1; omega, fun h0 => ?_⟩
  have hck : c ≠ k := by have := h.2.1; omega
  obtain ⟨b', off', hb, hc⟩ := h.2.2.2 (by omega)
  cases hb
  rw [if_neg hck] at hgo
  refine ⟨b, off + k, hgo.symm, fun i u hu => ?_⟩
  rw [Nat.add_assoc]
  refine hc (k + i) u ?_
  rw [← hu]
  unfold ints
  rw [List.map_drop, List.getElem?_drop]
theorem b_CutPrefix_yes {a p : Option Addr} {n c m d : Nat} {r q : List Nat} {w : World} (h : Sl w a n c (ints .u8 (q ++ r))) (h' : Sl w p m d (ints .u8 q)) (hl : ∀ x ∈ q ++ r, x ≤ 255) (hq : 0 < q.length) :
    Calls Try.prog 137 #[.slice a n c, .slice p m d] w fun e w' => w = w' ∧ ∃ g2 o2 n2 c2, e = .returned (.tuple #[.slice (some ⟨g2, o2, none⟩) n2 c2, .bool true]) ∧ Sl w (some ⟨g2, o2, none⟩) n2 c2 (ints .u8 r) := by
  refine (Try.bytes_CutPrefix_all a p n c m d (zs (q ++ r)) (zs q) w (by rw [zs_len, h.int_len]) (by rw [zs_len, h'.int_len]) h.2.1 (bytesIn_of h) (bytesIn_of h')).mono ?_
  rintro e w' ⟨rfl, rfl⟩
  rw [hasPrefix_iff hl (fun x hx => hl x (by simp [hx])), decide_eq_true (List.prefix_append _ _)]
  have hn := h.int_len
  rw [List.length_append] at hn
  obtain ⟨b, off, rfl, _⟩ := h.2.2.2 (by omega)
  refine ⟨rfl, ?_⟩
  obtain ⟨x, q', rfl⟩ : ∃ x q', q = x :: q' := by cases q with
    | nil => simp at hq
    | cons x q' => exact ⟨x, q', rfl⟩
  have e1 : Lib.trimPrefixV (some ⟨b, off, none⟩) n c (zs (x :: q' ++ r)) (zs (x :: q')) = Lib.bytesTrimPrefix b off n c (zs (x :: q' ++ r)) (zs (x :: q')) := rfl
  obtain ⟨g2, o2, e2, hs⟩ := Sl.from h (k := (x :: q').length) (by omega)
  rw [e1]
  unfold Lib.bytesTrimPrefix
  rw [hasPrefix_iff hl (fun x hx => hl x (List.mem_append_left _ hx)), decide_eq_true (List.prefix_append _ _), if_pos rfl, zs_len, e2]
  rw [List.drop_append_of_le_length (Nat.le_refl _), List.drop_length, List.nil_append] at hs
  exact ⟨g2, o2, _, _, rfl, hs⟩
theorem b_CutPrefix_no {a p : Option Addr} {n c m d : Nat} {l q : List Nat} {w : World} (h : Sl w a n c (ints .u8 l)) (h' : Sl w p m d (ints .u8 q)) (hl : ∀ x ∈ l, x ≤ 255) (hq : ∀ x ∈ q, x ≤ 255) (hn : ¬ q <+: l) :
    Calls Try.prog 137 #[.slice a n c, .slice p m d] w fun e w' => w = w' ∧ ∃ a2 n2 c2, e = .returned (.tuple #[.slice a2 n2 c2, .bool false]) := by
  refine (Try.bytes_CutPrefix_all a p n c m d (zs l) (zs q) w (by rw [zs_len, h.int_len]) (by rw [zs_len, h'.int_len]) h.2.1 (bytesIn_of h) (bytesIn_of h')).mono ?_
  rintro e w' ⟨rfl, rfl⟩
  have hz := hasPrefix_iff hl hq
  rw [decide_eq_false hn] at hz
  rw [hz]
  refine ⟨rfl, ?_⟩
  unfold Lib.trimPrefixV
  split
  · unfold Lib.bytesTrimPrefix
    rw [hz, if_neg (by decide)]
    exact ⟨_, _, _, rfl⟩
  · exact ⟨_, _, _, rfl⟩
theorem index_bytes {l : List Nat} {v : Nat} (hl : ∀ x ∈ l, x ≤ 255) (hv : v ≤ 255) : (¬ v ∈ l ∧ Lib.indexByte (l.map UInt8.ofNat) (UInt8.ofNat v) = -1) ∨ (∃ p r, l = p ++ v :: r ∧ ¬ v ∈ p ∧ Lib.indexByte (l.map UInt8.ofNat) (UInt8.ofNat v) = (p.length : Int)) := by
  induction l with
  | nil => exact .inl ⟨by simp, rfl⟩
  | cons x l ih =>
    have ih := ih (fun y hy => hl y (by simp [hy]))
    simp only [List.map_cons, Lib.indexByte]
    by_cases hx : x = v
    · subst hx
      refine .inr ⟨[], l, rfl, by simp, ?_⟩
      simp
    · have hne : (UInt8.ofNat x == UInt8.ofNat v) = false := by
        simp only [beq_eq_false_iff_ne, ne_eq]
        exact fun h => hx (byte_inj (hl x (by simp)) hv h)
      rw [hne, if_neg (by decide)]
      rcases ih with ⟨h1, h2⟩ | ⟨p, r, rfl, h1, h2⟩
      · refine .inl ⟨fun h => by
          rcases List.mem_cons.1 h with h | h
          · exact hx h.symm
          · exact h1 h, ?_⟩
        rw [h2]; rfl
      · refine .inr ⟨x :: p, r, rfl, fun h => by
          rcases List.mem_cons.1 h with h | h
          · exact hx h.symm
          · exact h1 h, ?_⟩
        rw [h2]
        have : ((p.length : Int) == -1) = false := by simp
        rw [this, if_neg (by decide)]
        simp
theorem first_at {v : Nat} : ∀ (p p' r r' : List Nat), ¬ v ∈ p → ¬ v ∈ p' → p ++ v :: r = p' ++ v :: r' → p = p' ∧ r = r'
  | [], [], r, r', _, _, e => by simpa using e
  | [], y :: p', r, r', _, h2, e => by simp at e; exact absurd (by simp [e.1]) h2
  | x :: p, [], r, r', h1, _, e => by simp at e; exact absurd (by simp [e.1]) h1
  | x :: p, y :: p', r, r', h1, h2, e => by
    simp only [List.cons_append, List.cons.injEq] at e
    obtain ⟨h3, h4⟩ := first_at p p' r r' (fun h => h1 (by simp [h])) (fun h => h2 (by simp [h])) e.2
    exact ⟨by rw [e.1, h3], h4⟩
set_option maxRecDepth 100000 in
set_option maxHeartbeats 4000000 in
/-- 'bytes.Cut' at a separator of one byte, where that stands first given: whatever the length. -/
theorem b_Cut_at (p1 p2 : Option Addr) (n c1 c2 : Nat) (i : Int) (w : World) (hcap : n ≤ c1) (hlo : -1 ≤ i) (hroom : 0 ≤ i → i + 1 ≤ n) (hn : n ≤ 9223372036854775807)
    (hidx : Calls Try.prog 170 #[.slice p1 n c1, .slice p2 1 c2] w fun e w' => e = .returned (.int .i64 i) ∧ ∃ q, w' = w.drewN q) :
    Calls Try.prog 156 #[.slice p1 n c1, .slice p2 1 c2] w fun e w' => e = .returned (Lib.cutV p1 n c1 1 i) ∧ ∃ q, w' = w.drewN q := by
  have mixed : Try.prog.follows .mixedOrders = true := by kernel_rfl
  unfold Lib.cutV
  by_cases h0 : 0 ≤ i
  · obtain ⟨j, rfl⟩ : ∃ j : Nat, i = j := ⟨i.toNat, by omega⟩
    have hr := hroom h0
    have hw := IntWalk.i64_in ((j : Int) + 1) (by omega)
    have ht : ((j : Int) + 1).toNat = j + 1 := by omega
    have hj1 : (0 : Int) ≤ (j : Int) + 1 := by omega
    have hj2 : (j : Int) + 1 ≤ (c1 : Int) := by omega
    have hj3 : (j : Int) ≤ (c1 : Int) := by omega
    have hj4 : j ≤ n := by omega
    have hj5 : (j : Int) ≤ (n : Int) := by omega
    rw [if_pos h0]
    go_enter Try.func156, Try.ntmps156
    go_wp2_with fail
    refine hidx.mono ?_
    rintro e w' ⟨rfl, q, rfl⟩
    go_wp2_with fail
    go_region_o
    all_goals go_wp2
    all_goals go_ret3
    all_goals exact ⟨by simp [Lib.fromV, Addr.add, *], _, rfl⟩
  · rw [if_neg h0]
    obtain rfl : i = -1 := by omega
    go_enter Try.func156, Try.ntmps156
    go_wp2_with fail
    refine hidx.mono ?_
    rintro e w' ⟨rfl, q, rfl⟩
    go_wp2_with fail
    go_ret3
    exact ⟨rfl, _, rfl⟩
/-- 'bytes.Cut(b, []byte{v})'. -/
theorem b_Cut_yes {a : Option Addr} {n c b2 o2 d v : Nat} {p r : List Nat} {w : World} (h : Sl w a n c (ints .u8 (p ++ v :: r))) (hc2 : w.cell? ⟨b2, o2, none⟩ = some (.int .u8 (v : Int))) (hl : ∀ x ∈ p ++ v :: r, x ≤ 255) (hp : ¬ v ∈ p) (hn : n ≤ 9223372036854775807) :
    Calls Try.prog 156 #[.slice a n c, .slice (some ⟨b2, o2, none⟩) 1 d] w fun e w' => Ext w w' ∧ ∃ a1 n1 c1 g2 o2 n2 c2, e = .returned (.tuple #[.slice a1 n1 c1, .slice (some ⟨g2, o2, none⟩) n2 c2, .bool true]) ∧ Sl w a1 n1 c1 (ints .u8 p) ∧ Sl w (some ⟨g2, o2, none⟩) n2 c2 (ints .u8 r) := by
  have hlen := h.int_len
  rw [List.length_append, List.length_cons] at hlen
  obtain ⟨b, off, rfl, hcell⟩ := h.at_int (by omega)
  have hi : Lib.indexByte (Lib.bytesOf (zs (p ++ v :: r))) ((v : Int).toNat.toUInt8) = (p.length : Int) := by
    rw [zs_bytes, Int.toNat_natCast]
    show Lib.indexByte _ (UInt8.ofNat v) = _
    rcases index_bytes hl (hl v (by simp)) with ⟨h1, _⟩ | ⟨p', r', e, h1, h2⟩
    · exact absurd (by simp) h1
    · have : p = p' := (first_at p p' r r' hp h1 e).1
      subst this
      exact h2
  have hidx := Try.bytes_Index_one b off n c b2 o2 d (zs (p ++ v :: r)) (v : Int) w (by rw [zs_len, h.int_len]) (fun i hi => by
    have hi' : i < (p ++ v :: r).length := by rw [h.int_len]; exact hi
    rw [zs_get _ i hi']; exact hcell i hi') hc2
  rw [hi] at hidx
  refine (b_Cut_at (some ⟨b, off, none⟩) (some ⟨b2, o2, none⟩) n c d (p.length : Int) w h.2.1 (by omega) (by omega) hn (hidx.mono fun e w' hh => ⟨hh.1, 0, hh.2⟩)).mono ?_
  rintro e w' ⟨rfl, q, rfl⟩
  refine ⟨(Ext.refl w).drewN q, ?_⟩
  unfold Lib.cutV
  rw [if_pos (by omega), Int.toNat_natCast]
  obtain ⟨g2, o2', e2, hs⟩ := Sl.from h (k := p.length + 1) (by omega)
  have e3 : Lib.fromV (some ⟨b, off, none⟩) n c (p.length + 1) = .slice (some ⟨g2, o2', none⟩) (n - (p.length + 1)) (c - (p.length + 1)) := by
    rw [← e2]
    unfold Lib.fromV Lib.sliceFrom
    congr 1
  rw [e3]
  have hd : (p ++ v :: r).drop (p.length + 1) = r := by simp
  rw [hd] at hs
  have ht := h.take p.length (by omega)
  rw [ints_take, List.take_left] at ht
  exact ⟨_, _, _, _, _, _, _, rfl, ht, hs⟩
theorem b_Cut_no {b off n c b2 o2 d v : Nat} {l : List Nat} {w : World} (h : Sl w (some ⟨b, off, none⟩) n c (ints .u8 l)) (hc2 : w.cell? ⟨b2, o2, none⟩ = some (.int .u8 (v : Int))) (hl : ∀ x ∈ l, x ≤ 255) (hv : v ≤ 255) (hp : ¬ v ∈ l) (hn : n ≤ 9223372036854775807) :
    Calls Try.prog 156 #[.slice (some ⟨b, off, none⟩) n c, .slice (some ⟨b2, o2, none⟩) 1 d] w fun e w' => Ext w w' ∧ e = .returned (.tuple #[.slice (some ⟨b, off, none⟩) n c, .slice none 0 0, .bool false]) := by
  have hi : Lib.indexByte (Lib.bytesOf (zs l)) ((v : Int).toNat.toUInt8) = -1 := by
    rw [zs_bytes, Int.toNat_natCast]
    show Lib.indexByte _ (UInt8.ofNat v) = _
    rcases index_bytes hl hv with ⟨_, h2⟩ | ⟨p', r', e, h1, h2⟩
    · exact h2
    · exact absurd (by rw [e]; simp) hp
  have hidx := Try.bytes_Index_one b off n c b2 o2 d (zs l) (v : Int) w (by rw [zs_len, h.int_len]) (fun i hi => by
    have hi' : i < l.length := by rw [h.int_len]; exact hi
    obtain ⟨b', off', hb, hcell⟩ := h.at_int (by omega)
    cases hb
    rw [zs_get _ i hi']; exact hcell i hi') hc2
  rw [hi] at hidx
  refine (b_Cut_at (some ⟨b, off, none⟩) (some ⟨b2, o2, none⟩) n c d (-1) w h.2.1 (by omega) (by omega) hn (hidx.mono fun e w' hh => ⟨hh.1, 0, hh.2⟩)).mono ?_
  rintro e w' ⟨rfl, q, rfl⟩
  refine ⟨(Ext.refl w).drewN q, ?_⟩
  unfold Lib.cutV
  rw [if_neg (by omega)]

end Go.Proofs.Ytogcmnagiepofaa
