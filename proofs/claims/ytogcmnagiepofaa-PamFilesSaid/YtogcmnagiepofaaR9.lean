/- Rasters: a file's bytes. -/
import Derived.Test.YtogcmnagiepofaaR8
namespace Go.Proofs.Ytogcmnagiepofaa
set_option linter.unusedVariables false
open Go Go.RowKit

/-- The bytes of colours. -/
def colB (l : List Col) : List Nat := l.flatMap fun p => [p.1, p.2.1, p.2.2.1, p.2.2.2]
theorem colB_len (l : List Col) : (colB l).length = l.length * 4 := by
  induction l with
  | nil => rfl
  | cons p r ih => simp only [colB, List.flatMap_cons, List.length_append, List.length_cons, List.length_nil] at *; omega
theorem colB_snoc {l : List Col} {j : Nat} (h : j < l.length) : colB (l.take (j + 1)) = colB (l.take j) ++ [l[j].1, l[j].2.1, l[j].2.2.1, l[j].2.2.2] := by
  unfold colB
  rw [List.take_succ_eq_append_getElem h, List.flatMap_append]; rfl
theorem add_none (b off j : Nat) : (⟨b, off, none⟩ : Addr).add j = ⟨b, off + j, none⟩ := by
  unfold Addr.add
  by_cases hz : j = 0
  · subst hz; simp
  · simp [hz]
theorem news4 (w : World) (e : TypeId) (v0 v1 v2 v3 : Value) : ∀ j u, [v0, v1, v2, v3][j]? = some u → (w.alloc (.cells #[v0, v1, v2, v3] e)).cell? ((⟨w.heap.size, 0, none⟩ : Addr).add j) = some u := by
  intro j u hj
  rw [add_none]
  match j, hj with
  | 0, hj => simp at hj; subst hj; go_simp
  | 1, hj => simp at hj; subst hj; go_simp
  | 2, hj => simp at hj; subst hj; go_simp
  | 3, hj => simp at hj; subst hj; go_simp
  | j + 4, hj => simp at hj
theorem ints_cell1 (k : IntKind) (l : List Nat) : ∀ u ∈ ints k l, u.oneCell' = true := by
  intro u hu
  simp only [ints, List.mem_map] at hu
  obtain ⟨x, _, rfl⟩ := hu
  rfl
/-- What Write answers. -/
def RetWr (w : World) (r : Option (List Nat)) (e : Ending) (w' : World) : Prop :=
  match r with
  | none => e = .returned (.tuple #[.slice none 0 0, .int .i64 2]) ∧ Ext w w'
  | some l => ∃ a n c, e = .returned (.tuple #[.slice a n c, .int .i64 0]) ∧ Sl w' a n c (ints .u8 l) ∧ Ext w w'
def wrL (x y : Int) (n : Nat) (l : List Col) : Option (List Nat) := if mayR x y n = true then some (natsOf (headS x y) ++ colB l) else none
theorem headS_size (x y : Int) (h1 : 1 ≤ x) (h2 : x ≤ 64) (h3 : 1 ≤ y) (h4 : y ≤ 64) : 1 ≤ (natsOf (headS x y)).length ∧ (natsOf (headS x y)).length ≤ 105 := by
  have a1 := textZ_small (x := x) (by omega) (by omega)
  have a2 := textZ_small (x := y) (by omega) (by omega)
  rw [natsOf_len]
  have hz : (headS x y).size = 9 + (textZ x).size + 8 + (textZ y).size + 46 := by unfold headS; simp only [ByteArray.size_append]; rfl
  rw [hz]
  omega

set_option maxRecDepth 100000 in
set_option maxHeartbeats 4000000 in
theorem p_Write (x y : Int) (a : Option Addr) (n c : Nat) (l : List Col) (w : World) (h : SlC w a n c l) :
    Calls Try.prog 71 #[rst x y a n c] w (RetWr w (wrL x y n l)) := by
  have HL := hidP h.len
  have H := hidP h
  clear h
  have HM := hidP (fun u => p_May x y a n c u)
  cases hm : mayR x y n
  · have HR : Hid (wrL x y n l = none) := hidP (if_neg (by rw [hm]; decide))
    rw [hm] at HM
    clear hm
    generalize wrL x y n l = rr at *
    go_enter Try.func71, Try.ntmps71
    go_wp2_with fail
    refine absC (fun x1 hx1 => ?_)
    have hx : Ext w x1 := by rw [hx1]; exact ((Ext.refl _).alloc _)
    have bp : Bl x1 (w.heap.size) #[.int .i64 x, .int .i64 y, .slice a n c] := by rw [hx1]; exact (Bl.new (by simp))
    have HE := hx
    clear hx
    clear hx1
    refine (HM.out _).mono ?_
    rintro e u1 ⟨rfl, hx⟩
    replace bp := Bl.ext hx bp (Nat.succ_pos _)
    replace HE := HE.trans hx
    clear hx
    go_wp2_with fail
    go_ret2
    rw [HR.out]
    exact ⟨rfl, HE⟩
  · have HR : Hid (wrL x y n l = some (natsOf (headS x y) ++ colB l)) := hidP (if_pos hm)
    have hmm := of_decide_eq_true hm
    obtain ⟨m1, m2, m3, m4, m5⟩ := hmm
    have hbx := mul_box m1 m2 m3 m4
    obtain ⟨z1, z2⟩ := headS_size x y m1 m2 m3 m4
    have HH := hidP (fun u => p_header x y u (by omega) (by omega) (by omega) (by omega))
    rw [hm] at HM
    have hn4 : n ≤ 4096 := by omega
    clear hm m5 hbx
    generalize wrL x y n l = rr at *
    generalize natsOf (headS x y) = hd at *
    have HC0 : Hid (colB (l.take 0) = []) := hidP (by simp [colB])
    go_enter Try.func71, Try.ntmps71
    go_wp2_with fail
    refine absC (fun x1 hx1 => ?_)
    have hx : Ext w x1 := by rw [hx1]; exact ((Ext.refl _).alloc _)
    have bp : Bl x1 (w.heap.size) #[.int .i64 x, .int .i64 y, .slice a n c] := by rw [hx1]; exact (Bl.new (by simp))
    have HE := hx
    clear hx
    clear hx1
    refine (HM.out _).mono ?_
    rintro e u1 ⟨rfl, hx⟩
    replace bp := Bl.ext hx bp (Nat.succ_pos _)
    replace HE := HE.trans hx
    clear hx
    go_wp2_with fail
    refine (HH.out _).mono ?_
    rintro e u2 ⟨ha, hn, hc, rfl, hhs, hx⟩
    replace bp := Bl.ext hx bp (Nat.succ_pos _)
    replace HE := HE.trans hx
    clear hx
    have HHS := hidP hhs
    have hhl := hhs.int_len
    obtain ⟨hb, hoff, rfl, hcell⟩ := hhs.2.2.2 (by omega)
    have HCELL := hidP hcell
    clear hhs hcell
    subst hhl
    have BPU := hidP bp
    go_wp2_with (first | (at_make; refine wpList_make0 (W := u2) (n := hd.length + 4 * n) T_u8 rfl _ _ rfl rfl (by go_num) (Ext.refl _) (by omega) (by omega) ?_; intro w0 hown0 he0) | (at_builtin; refine wpList_app (W := u2) T_u8 rfl _ _ rfl hown0 he0 (ints .u8 hd) rfl rfl (ints_len _ _) (fun j u hj => by rw [add_none]; exact he0.cell' (HCELL.out j u hj)) (ints_cell1 _ _) (by omega) (by omega) ?_; intro v1 w1 hown1 he1; have bp1 := Bl.ext he1 bp (Nat.succ_pos _)))
    have he1u : Ext u2 w1 := he1
    have bp := bp1
    clear bp1
    rw [Nat.zero_add, List.nil_append] at hown1
    clear hown0 he0
    go_loopw [30, 5] (fun iv v wr => ∃ j : Nat, j ≤ n ∧ iv = .int .i64 (j : Int) ∧ wr.ownsRow u2.heap.size 5 1 v (hd.length + 4 * j) (ints .u8 (hd ++ colB (l.take j))) ∧ Bl wr w.heap.size #[.int .i64 x, .int .i64 y, .slice a n c] ∧ Ext u2 wr) (fun iv _ _ => n - (intOf iv).toNat)
    case atStart => exact ⟨0, by omega, rfl, by rw [HC0.out, List.append_nil]; exact hown1, bp, he1⟩
    case round =>
      clear hown1 bp he1
      obtain ⟨j, hj, rfl, hown, bp, he⟩ := hrel
      by_cases hlt : j < n
      · have hlt0 := hlt
        obtain ⟨g, off, rfl, hc'⟩ := (H.out.ext (HE.trans he)).at (by omega)
        obtain ⟨h0, h1, h2, h3⟩ := hc' j (by rw [HL.out]; exact hlt)
        have hsn := colB_snoc (l := l) (j := j) (by rw [HL.out]; exact hlt)
        clear hc'
        generalize l[j]'(by rw [HL.out]; exact hlt) = p at *
        obtain ⟨p0, p1, p2, p3⟩ := p
        simp only [] at h0 h1 h2 h3 hsn
        have HSN := hidP hsn
        clear hsn
        go_upto_region 9 with fail
        refine absW (fun x2 hx2 => ?_)
        have hx : Ext wr x2 := by rw [hx2]; exact (Ext.refl _).alloc _
        have bv : Bl x2 wr.heap.size #[.int .u8 (p0 : Int), .int .u8 (p1 : Int), .int .u8 (p2 : Int), .int .u8 (p3 : Int)] := by rw [hx2]; exact Bl.new (by simp)
        replace hown := Row.ext hown hx
        replace bp := Bl.ext hx bp (Nat.succ_pos _)
        replace he := he.trans hx
        clear hx hx2 h0 h1 h2 h3
        go_wp2_with (first | (at_builtin; refine wpList_app (W := u2) T_u8 rfl _ _ rfl (hown.alloc _) (he.alloc _) [.int .u8 (p0 : Int), .int .u8 (p1 : Int), .int .u8 (p2 : Int), .int .u8 (p3 : Int)] rfl rfl rfl (news4 _ _ _ _ _ _) (by simp [Value.oneCell']) (by omega) (by omega) ?_; intro v2 w2 hown2 he2; have bp2 := Bl.ext he2 BPU.out (Nat.succ_pos _)))
        go_roundw
        case rel =>
          refine ⟨j + 1, by omega, by go_num, ?_, bp2, he2⟩
          rw [HSN.out, ← List.append_assoc]
          have e : ints .u8 ((hd ++ colB (l.take j)) ++ [p0, p1, p2, p3]) = ints .u8 (hd ++ colB (l.take j)) ++ [.int .u8 (p0 : Int), .int .u8 (p1 : Int), .int .u8 (p2 : Int), .int .u8 (p3 : Int)] := by simp [ints]
          rw [e]
          exact hown2
        case measure => simp only [intOf]; omega
      · obtain rfl : j = n := by omega
        obtain ⟨a5, c5, rfl, hS⟩ := Sl.of_owns hown
        have HSS := hidP hS
        clear hown hS
        go_wp2_with fail
        go_ret2
        rw [HR.out]
        refine ⟨_, _, _, rfl, ?_, HE.trans he⟩
        have := HSS.out
        rw [List.take_of_length_le (by rw [HL.out]; omega)] at this
        exact this

end Go.Proofs.Ytogcmnagiepofaa
