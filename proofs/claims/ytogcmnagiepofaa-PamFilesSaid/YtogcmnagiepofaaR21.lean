/- Rasters: the number of a line of a file. -/
import Derived.Test.YtogcmnagiepofaaR20
namespace Go.Proofs.Ytogcmnagiepofaa
set_option linter.unusedVariables false
set_option linter.unusedSimpArgs false
open Go Go.RowKit

/-- A line that begins with a word, and has a number from 1 to 64 behind it. -/
def numOk (q b line rest : List Nat) : Prop := b = q ++ (line ++ 10 :: rest) ∧ ¬ 10 ∈ line ∧ (readL line 1 64).2 = 0
/-- What the number of a line answers. -/
def RetNum (w : World) (q b : List Nat) (e : Ending) (w' : World) : Prop :=
  Ext w w' ∧ ((∃ line rest g2 o2 n2 c2, numOk q b line rest ∧ e = .returned (.tuple #[.int .i64 (readL line 1 64).1, .slice (some ⟨g2, o2, none⟩) n2 c2, .bool true]) ∧ Sl w' (some ⟨g2, o2, none⟩) n2 c2 (ints .u8 rest)) ∨
    ((∀ line rest, ¬ numOk q b line rest) ∧ ∃ p g2 o2 n2 c2 a2, (a2 = none ∨ a2 = some (⟨g2, o2, none⟩ : Addr)) ∧ e = .returned (.tuple #[.int .i64 p, .slice a2 n2 c2, .bool false])))

set_option maxRecDepth 100000 in
set_option maxHeartbeats 4000000 in
theorem p_number (s : ByteArray) (g o n c : Nat) (l : List Nat) (w : World) (h : Sl w (some ⟨g, o, none⟩) n c (ints .u8 l)) (hl : ∀ x ∈ l, x ≤ 255) (hn : n ≤ 9223372036854775807) (hs1 : 0 < s.size) (hs2 : s.size ≤ 20) :
    Calls Try.prog 138 #[.slice (some ⟨g, o, none⟩) n c, .string s] w (RetNum w (natsOf s) l) := by
  have hcv : ∀ (u : World) (s : ByteArray), (convert 9 86 (.string s)).run Try.prog u = .ok (.slice (some ⟨u.heap.size, 0, none⟩) s.size (grownCap u s.size 0 5)) (Lib.bytesWorld u 5 s) :=
    fun u s => Lib.run_convert_string_bytes u 9 86 5 s Try.underlying9 Try.underlying86 Try.underlying5
  have H := hidP h
  have hql : ∀ x ∈ natsOf s, x ≤ 255 := natsOf_le s
  have hq0 : 0 < (natsOf s).length := by rw [natsOf_len]; exact hs1
  have hlen := h.int_len
  by_cases hp : natsOf s <+: l
  · obtain ⟨r, rfl⟩ := hp
    have hrl : ∀ x ∈ r, x ≤ 255 := fun x hx => hl x (by simp [hx])
    have hL := hidP hl
    rw [List.length_append] at hlen
    by_cases h10 : 10 ∈ r
    · obtain ⟨line, rest, rfl, hno⟩ := List.eq_append_cons_of_mem h10
      have hline : ∀ x ∈ line, x ≤ 255 := fun x hx => hrl x (by simp [hx])
      have hlsz : (bytesOf line).size ≤ 9223372036854775807 := by rw [bytesOf_size]; rw [List.length_append] at hlen; omega
      have HRD := hidP (fun u => f_Read_any (bytesOf line) 1 64 u hlsz)
      rw [natsOf_bytesOf line hline] at HRD
      have HY := hidP (fun (u : World) (a b : Option Addr) (i j k m : Nat) (t : Sl u a i j (ints .u8 (natsOf s ++ (line ++ 10 :: rest)))) (t' : Sl u b k m (ints .u8 (natsOf s))) => b_CutPrefix_yes t t' hl hq0)
      have HC := hidP (fun (u : World) (a : Option Addr) (i j b2 : Nat) (t : Sl u a i j (ints .u8 (line ++ 10 :: rest))) (t2 : u.cell? ⟨b2, 0, none⟩ = some (.int .u8 ((10 : Nat) : Int))) (hi : i ≤ 9223372036854775807) => b_Cut_yes (d := 1) t t2 hrl hno hi)
      have HLI := hidP hline; have HLR := hidP hrl
      have HRES : Hid ((readL line 1 64).2 = 0 → numOk (natsOf s) (natsOf s ++ (line ++ 10 :: rest)) line rest) := hidP (fun h => ⟨rfl, hno, h⟩)
      have HNO : Hid ((readL line 1 64).2 ≠ 0 → ∀ line' rest', ¬ numOk (natsOf s) (natsOf s ++ (line ++ 10 :: rest)) line' rest') := hidP (fun h line' rest' ⟨h1, h2, h3⟩ => by
        have := first_at _ _ _ _ hno h2 (List.append_cancel_left h1)
        rw [← this.1] at h3
        exact h h3)
      have hll : (line ++ 10 :: rest).length ≤ 9223372036854775807 := by omega
      clear hline hrl hl hql hlen
      generalize hrr : readL line 1 64 = rr at *
      obtain ⟨r1, r2⟩ := rr
      go_enter Try.func138, Try.ntmps138
      go_wp2_with fail
      refine absC (fun x1 hx1 => ?_)
      have HE : Ext w x1 := by rw [hx1]; exact Ext.bytes _ _ _
      have hq : Sl x1 (some ⟨w.heap.size, 0, none⟩) s.size (grownCap w s.size 0 5) (ints .u8 (natsOf s)) := by rw [hx1]; exact Sl.bytes _ _ _ (by omega)
      clear hx1
      refine (HY.out _ _ _ _ _ _ _ (H.out.ext HE) hq).mono ?_
      rintro e u2 ⟨rfl, g2, o2, n2, c2, rfl, hs3⟩
      have hn2 : n2 ≤ 9223372036854775807 := by rw [← hs3.int_len]; exact hll
      have HS3 := hidP hs3
      clear hs3 hq
      go_wp2_with fail
      refine absC (fun x3 hx3 => ?_)
      have hx : Ext x1 x3 := by rw [hx3]; exact (Ext.refl _).alloc _
      have hc10 : x3.cell? ⟨x1.heap.size, 0, none⟩ = some (.int .u8 ((10 : Nat) : Int)) := by
        have := Bl.new (w := x1) (e := 5) (cs := #[Value.int .u8 10]) rfl 0
        rw [hx3]; exact this
      clear hx3
      refine (HC.out _ _ _ _ _ (HS3.out.ext hx) hc10 hn2).mono ?_
      rintro e u4 ⟨hx4, a1, n1, c1, g3, o3, n3, c3, rfl, hs5, hs6⟩
      replace HE := (HE.trans hx).trans hx4
      have hcv2 := str_of (hs5.ext hx4) HLI.out
      have HS6 := hidP (hs6.ext hx4)
      clear hx hx4 hc10 hs5 hs6
      go_wp2_with fail
      refine (HRD.out _).mono ?_
      rintro e u5 ⟨rfl, hx⟩
      replace HE := HE.trans hx
      have HS7 := hidP (HS6.out.ext hx)
      clear hx
      by_cases hz : r2 = 0
      · subst hz
        go_wp2_with fail
        refine bodyPost_ret (results_tmp3 rfl _ _ _) rfl ?_
        exact ⟨HE, .inl ⟨line, rest, g3, o3, n3, c3, HRES.out (by first | rfl | trivial), by rw [hrr]; rfl, HS7.out⟩⟩
      · have hb : ((r2 : Int) == 0) = false := by simpa using hz
        go_wp2_with fail
        refine bodyPost_ret (results_tmp3 rfl _ _ _) rfl ?_
        exact ⟨HE, .inr ⟨HNO.out hz, _, _, _, _, _, _, .inr rfl, rfl⟩⟩
    · have HY := hidP (fun (u : World) (a b : Option Addr) (i j k m : Nat) (t : Sl u a i j (ints .u8 (natsOf s ++ r))) (t' : Sl u b k m (ints .u8 (natsOf s))) => b_CutPrefix_yes t t' hl hq0)
      have HC := hidP (fun (u : World) (g' o' : Nat) (i j b2 : Nat) (t : Sl u (some ⟨g', o', none⟩) i j (ints .u8 r)) (t2 : u.cell? ⟨b2, 0, none⟩ = some (.int .u8 ((10 : Nat) : Int))) (hi : i ≤ 9223372036854775807) => b_Cut_no (d := 1) t t2 hrl (by decide) h10 hi)
      have HNO : Hid (∀ line' rest', ¬ numOk (natsOf s) (natsOf s ++ r) line' rest') := hidP (fun line' rest' ⟨h1, h2, h3⟩ => by
        have := List.append_cancel_left h1
        exact h10 (by rw [this]; simp))
      have hll : r.length ≤ 9223372036854775807 := by omega
      clear hrl hl hql hlen
      go_enter Try.func138, Try.ntmps138
      go_wp2_with fail
      refine absC (fun x1 hx1 => ?_)
      have HE : Ext w x1 := by rw [hx1]; exact Ext.bytes _ _ _
      have hq : Sl x1 (some ⟨w.heap.size, 0, none⟩) s.size (grownCap w s.size 0 5) (ints .u8 (natsOf s)) := by rw [hx1]; exact Sl.bytes _ _ _ (by omega)
      clear hx1
      refine (HY.out _ _ _ _ _ _ _ (H.out.ext HE) hq).mono ?_
      rintro e u2 ⟨rfl, g2, o2, n2, c2, rfl, hs3⟩
      have hn2 : n2 ≤ 9223372036854775807 := by rw [← hs3.int_len]; exact hll
      have HS3 := hidP hs3
      clear hs3 hq
      go_wp2_with fail
      refine absC (fun x3 hx3 => ?_)
      have hx : Ext x1 x3 := by rw [hx3]; exact (Ext.refl _).alloc _
      have hc10 : x3.cell? ⟨x1.heap.size, 0, none⟩ = some (.int .u8 ((10 : Nat) : Int)) := by
        have := Bl.new (w := x1) (e := 5) (cs := #[Value.int .u8 10]) rfl 0
        rw [hx3]; exact this
      clear hx3
      refine (HC.out _ _ _ _ _ _ (HS3.out.ext hx) hc10 hn2).mono ?_
      rintro e u4 ⟨hx4, rfl⟩
      replace HE := (HE.trans hx).trans hx4
      clear hx hx4 hc10
      go_wp2_with fail
      refine bodyPost_ret (results_tmp3 rfl _ _ _) rfl ?_
      exact ⟨HE, .inr ⟨HNO.out, 0, 0, 0, 0, 0, none, .inl rfl, rfl⟩⟩
  · have HY := hidP (fun (u : World) (a b : Option Addr) (i j k m : Nat) (t : Sl u a i j (ints .u8 l)) (t' : Sl u b k m (ints .u8 (natsOf s))) => b_CutPrefix_no t t' hl hql hp)
    have HNO : Hid (∀ line' rest', ¬ numOk (natsOf s) l line' rest') := hidP (fun line' rest' ⟨h1, _, _⟩ => hp (by rw [h1]; exact List.prefix_append _ _))
    clear hl hql hlen hp
    go_enter Try.func138, Try.ntmps138
    go_wp2_with fail
    refine absC (fun x1 hx1 => ?_)
    have HE : Ext w x1 := by rw [hx1]; exact Ext.bytes _ _ _
    have hq : Sl x1 (some ⟨w.heap.size, 0, none⟩) s.size (grownCap w s.size 0 5) (ints .u8 (natsOf s)) := by rw [hx1]; exact Sl.bytes _ _ _ (by omega)
    clear hx1
    refine (HY.out _ _ _ _ _ _ _ (H.out.ext HE) hq).mono ?_
    rintro e u2 ⟨rfl, a2, n2, c2, rfl⟩
    clear hq
    go_wp2_with fail
    refine bodyPost_ret (results_tmp3 rfl _ _ _) rfl ?_
    exact ⟨HE, .inr ⟨HNO.out, 0, 0, 0, 0, 0, none, .inl rfl, rfl⟩⟩

end Go.Proofs.Ytogcmnagiepofaa
