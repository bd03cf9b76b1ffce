/- Sets of cells: cell by cell. -/
import Derived.Test.YtogcmnagiepofaaS2
namespace Go.Proofs.Ytogcmnagiepofaa
set_option linter.unusedVariables false
set_option linter.unusedSimpArgs false
open Go Go.RowKit

/-- What becomes of two sets. -/
def twoB (f : Bool → Bool → Bool) (x y : Int) (n : Nat) (l : List Bool) (x' y' : Int) (n' : Nat) (l' : List Bool) : (Int × Int × List Bool) × Int :=
  if mayR x y n = true ∧ mayR x' y' n' = true ∧ x = x' ∧ y = y' then ((x, y, List.zipWith f l l'), 0) else ((0, 0, []), 2)
/-- What isn't in a set. -/
def flipB (x y : Int) (n : Nat) (l : List Bool) : (Int × Int × List Bool) × Int :=
  if mayR x y n = true then ((x, y, l.map (! ·)), 0) else ((0, 0, []), 2)
/-- The call hands back a set, and what was wrong. -/
def RetBE (w : World) (r : (Int × Int × List Bool) × Int) (e : Ending) (w' : World) : Prop := ∃ a n c, e = .returned (.tuple #[rst r.1.1 r.1.2.1 a n c, .int .i64 r.2]) ∧ SlB w' a n c r.1.2.2 ∧ Ext w w'
theorem fill_step (R : List Bool) (N j : Nat) (hR : R.length = N) (hj : j < R.length) : (R.take j ++ List.replicate (N - j) false).set j R[j] = R.take (j + 1) ++ List.replicate (N - (j + 1)) false := by
  rw [List.set_append, if_neg (by rw [List.length_take]; omega), List.length_take, Nat.min_eq_left (by omega), Nat.sub_self]
  have e : N - j = N - (j + 1) + 1 := by omega
  rw [e, List.replicate_succ, List.set_cons_zero, List.take_succ_eq_append_getElem hj, List.append_assoc]
  rfl
theorem RowB.open {w : World} {B e n c : Nat} {a : Option Addr} {xs : List Value} (h : w.ownsRow B e 1 (.slice a n c) n xs) (hn : 0 < n) : ∃ g, a = some ⟨g, 0, none⟩ ∧ B ≤ g := by
  obtain ⟨h1, h2⟩ := h
  rcases h2 with ⟨h3, h4⟩ | ⟨g2, cap2, cur, hv, hg, hh, hn2, hm, hs, hx⟩
  · omega
  · cases hv
    exact ⟨g2, rfl, hg⟩
theorem RowB.cell {w : World} {B e g n cap : Nat} {D : List Bool} (h : w.ownsRow B e 1 (.slice (some ⟨g, 0, none⟩) n cap) n (bools D)) (j : Nat) (hj : j < D.length) : w.cell? ⟨g, j, none⟩ = some (.bool D[j]) := by
  have hl : D.length = n := by have := h.1; rw [bools_len] at this; omega
  rw [World.ownsRow.cellAt (w := w) h j (by omega), bools_get D j hj]
theorem RowB.store {w : World} {B e g n cap : Nat} {D : List Bool} (h : w.ownsRow B e 1 (.slice (some ⟨g, 0, none⟩) n cap) n (bools D)) (j : Nat) (v : Bool) :
    (w.setCell ⟨g, j, none⟩ (.bool v)).ownsRow B e 1 (.slice (some ⟨g, 0, none⟩) n cap) n (bools (D.set j v)) := by
  have := (World.ownsRow.stored (w := w) h j (.bool v)).1
  have e : (bools D).set j (.bool v) = bools (D.set j v) := by simp [bools, List.map_set]
  rw [e] at this
  exact this
theorem callFunc_go {P : Program} {F : FuncId} {fn : Func} (hf : P.funcs[F]? = some fn) (hn : (fn.name == "runtime.NumGoroutine") = false) (hb : fn.body.isNone = false) (args : Array Value) (u : World) :
    (callFunc F args).run P u = .ok (.enter F args) u := by
  have hn' : ¬ fn.name = "runtime.NumGoroutine" := by simpa using hn
  have hb' : ¬ fn.body = none := fun h => by rw [h] at hb; cases hb
  simp [callFunc, Sem.run_bind, hf, hn', hb']
theorem zip_step (f : Bool → Bool → Bool) (l l' : List Bool) (n j : Nat) (hl : l.length = n) (hl' : l'.length = n) (hj : j < n) : (List.zipWith f l l').length = n ∧ ∃ h : j < (List.zipWith f l l').length, (List.zipWith f l l')[j] = f l[j] l'[j] := by
  have h1 : (List.zipWith f l l').length = n := by simp; omega
  exact ⟨h1, by omega, by simp⟩
theorem zip_flip : ∀ l : List Bool, List.zipWith (fun p _ => !p) l l = l.map (! ·)
  | [] => rfl
  | p :: r => by simp [zip_flip r]
theorem ends_bool (r : Bool) : ∀ u ∈ (#[Value.bool r] : Array Value).toList, u.oneCell' = true := by
  intro u hu
  simp at hu
  subst hu; rfl

set_option maxRecDepth 100000 in
set_option maxHeartbeats 8000000 in
theorem c_each (k : FuncId) (f : Bool → Bool → Bool) (x y x' y' : Int) (a a' : Option Addr) (n c n' c' : Nat) (l l' : List Bool) (w : World) (h : SlB w a n c l) (h' : SlB w a' n' c' l')
    (hcf : ∀ args u, (callFunc k args).run Try.prog u = .ok (.enter k args) u) (hdo : ∀ (p q : Bool) (u : World), Calls Try.prog k #[.bool p, .bool q] u fun e u' => e = .returned (.bool (f p q)) ∧ u = u') :
    Calls Try.prog 95 #[rst x y a n c, rst x' y' a' n' c', .func (.func k) #[] #[]] w (RetBE w (twoB f x y n l x' y' n' l')) := by
  have HL := hidP h.len; have HL' := hidP h'.len
  have H := hidP h; have H' := hidP h'
  clear h h'
  have HM := hidP (fun u => c_May x y a n c u)
  have HM' := hidP (fun u => c_May x' y' a' n' c' u)
  have HDO := hidP hdo
  clear hdo
  by_cases hd : mayR x y n = true ∧ mayR x' y' n' = true ∧ x = x' ∧ y = y'
  · obtain ⟨hm, hm', rfl, rfl⟩ := hd
    have HR : Hid (twoB f x y n l x y n' l' = ((x, y, List.zipWith f l l'), 0)) := hidP (if_pos ⟨hm, hm', rfl, rfl⟩)
    rw [hm] at HM
    rw [hm'] at HM'
    have hmm := of_decide_eq_true hm
    have hmm' := of_decide_eq_true hm'
    obtain ⟨m1, m2, m3, m4, m5⟩ := hmm
    have hbx := mul_box m1 m2 m3 m4
    obtain rfl : n = n' := by have := hmm'.2.2.2.2; omega
    have hN : newB x y = (x, y, List.replicate n false) := by
      unfold newB
      rw [if_pos ⟨m1, m2, m3, m4⟩, ← m5, Int.toNat_natCast]
    have HN := hidP (fun u => c_New x y u)
    rw [hN] at HN
    have hn4 : n ≤ 4096 := by omega
    have hn0 : 0 < n := by omega
    have HZ := hidP (fun j hj => zip_step f l l' n j HL.out HL'.out hj)
    have HZ0 := (HZ.out 0 hn0).1
    have HF := hidP (fun (j : Nat) (hj : j < (List.zipWith f l l').length) => fill_step _ n j HZ0 hj)
    clear hm hm' hmm' m5 hbx hN
    generalize List.zipWith f l l' = R at *
    have HI0 : Hid (R.take 0 ++ List.replicate (n - 0) false = List.replicate n false) := hidP (by simp)
    generalize twoB f x y n l x y n l' = rr at *
    go_enter Try.func95, Try.ntmps95
    go_wp2_with fail
    refine absC (fun x1 hx1 => ?_)
    have hx : Ext w x1 := by rw [hx1]; exact ((((Ext.refl _).alloc _).alloc _).alloc _)
    have bp : Bl x1 (w.heap.size) #[.int .i64 x, .int .i64 y, .slice a n c] := by rw [hx1]; exact (((Bl.new (by simp)).alloc (by simp)).alloc (by simp))
    have bq : Bl x1 (w.heap.size + 1) #[.int .i64 x, .int .i64 y, .slice a' n c'] := by rw [hx1]; exact ((Bl.new (by simp)).alloc (by simp))
    have bs : Bl x1 (w.heap.size + 1 + 1) #[.int .i64 0, .int .i64 0, .slice none 0 0] := by rw [hx1]; exact (Bl.new (by simp))
    have fs : Fz x1 (w.heap.size + 1 + 1) := by rw [hx1]; exact (Fz.new (by simp))
    have HE := hx
    clear hx
    clear hx1
    refine (HM.out _).mono ?_
    rintro e u1 ⟨rfl, hx⟩
    replace bp := Bl.ext hx bp (Nat.succ_pos _)
    replace bq := Bl.ext hx bq (Nat.succ_pos _)
    replace fs := Fz.ext hx fs bs (Nat.succ_pos _)
    replace bs := Bl.ext hx bs (Nat.succ_pos _)
    replace HE := HE.trans hx
    clear hx
    go_wp2_with fail
    refine (HM'.out _).mono ?_
    rintro e u2 ⟨rfl, hx⟩
    replace bp := Bl.ext hx bp (Nat.succ_pos _)
    replace bq := Bl.ext hx bq (Nat.succ_pos _)
    replace fs := Fz.ext hx fs bs (Nat.succ_pos _)
    replace bs := Bl.ext hx bs (Nat.succ_pos _)
    replace HE := HE.trans hx
    clear hx
    go_wp2_with fail
    refine (HN.out _).mono ?_
    rintro e u3 ⟨a3, n3, c3, rfl, hs3, hown, hx⟩
    obtain rfl : n3 = n := by have := hs3.len; rw [List.length_replicate] at this; omega
    have lp2 := bp.lt (Nat.succ_pos _); have lq2 := bq.lt (Nat.succ_pos _); have ls2 := bs.lt (Nat.succ_pos _)
    obtain ⟨g3, rfl, hg3⟩ := RowB.open hown hn0
    have hg3u := (hown.lt g3 rfl).2
    clear hs3
    replace bp := Bl.ext hx bp (Nat.succ_pos _)
    replace bq := Bl.ext hx bq (Nat.succ_pos _)
    replace fs := Fz.ext hx fs bs (Nat.succ_pos _)
    replace bs := Bl.ext hx bs (Nat.succ_pos _)
    replace HE := HE.trans hx
    clear hx
    go_upto_region 4 with fail
    refine absW (fun x2 hx2 => ?_)
    have hx : Ext u3 x2 := by rw [hx2]; exact ((Ext.refl _).alloc _)
    have bt : Bl x2 (u3.heap.size) #[.int .i64 x, .int .i64 y, .slice (some ⟨g3, 0, none⟩) n3 c3] := by rw [hx2]; exact (Bl.new (by simp))
    replace bp := Bl.ext hx bp (Nat.succ_pos _)
    replace bq := Bl.ext hx bq (Nat.succ_pos _)
    replace fs := Fz.ext hx fs bs (Nat.succ_pos _)
    replace bs := Bl.ext hx bs (Nat.succ_pos _)
    replace HE := HE.trans hx
    clear hx
    replace hown : x2.ownsRow u2.heap.size 4 1 (.slice (some ⟨g3, 0, none⟩) n3 c3) n3 (bools (R.take 0 ++ List.replicate (n3 - 0) false)) := by rw [HI0.out, hx2]; exact hown.alloc _
    clear hx2
    generalize u3.heap.size = ga at *
    generalize u2.heap.size = B at *
    go_wp2_with fail
    go_loopw [41] (fun iv wr => ∃ j : Nat, j ≤ n3 ∧ iv = .int .i64 (j : Int) ∧ wr.ownsRow B 4 1 (.slice (some ⟨g3, 0, none⟩) n3 c3) n3 (bools (R.take j ++ List.replicate (n3 - j) false)) ∧ Bl wr ga #[.int .i64 x, .int .i64 y, .slice (some ⟨g3, 0, none⟩) n3 c3] ∧ Bl wr w.heap.size #[.int .i64 x, .int .i64 y, .slice a n3 c] ∧ Bl wr (w.heap.size + 1) #[.int .i64 x, .int .i64 y, .slice a' n3 c'] ∧ Bl wr (w.heap.size + 1 + 1) #[.int .i64 0, .int .i64 0, .slice none 0 0] ∧ Fz wr (w.heap.size + 1 + 1) ∧ Ext w wr) (fun iv _ => n3 - (intOf iv).toNat)
    case atStart => exact ⟨0, by omega, rfl, hown, bt, bp, bq, bs, fs, HE⟩
    case round =>
      clear hown bt bp bq bs fs HE
      obtain ⟨j, hj, rfl, hown, bt, bp, bq, bs, fs, HE⟩ := hrel
      by_cases hlt : j < n3
      · have hlt0 := hlt
        obtain ⟨g, off, rfl, hc⟩ := (H.out.ext HE).at (by omega)
        obtain ⟨g', off', rfl, hc'⟩ := (H'.out.ext HE).at (by omega)
        have h0 := hc j (by rw [HL.out]; exact hlt)
        have k0 := hc' j (by rw [HL'.out]; exact hlt)
        have hz := (HZ.out j hlt).2
        obtain ⟨hjR, hz⟩ := hz
        have hf := HF.out j hjR
        rw [hz] at hf
        have hfl : j < (R.take j ++ List.replicate (n3 - j) false).length := by simp; omega
        have HC1 := RowB.cell hown j hfl
        have HC2 : wr.frozen? ⟨g3, j, none⟩ = false := World.ownsRow.frozenAt (w := wr) hown j
        have hrow := fun (r : Bool) => RowB.store (w := wr.drew) hown.drew j r
        have hrow2 := hrow (f (l[j]'(by rw [HL.out]; exact hlt)) (l'[j]'(by rw [HL'.out]; exact hlt)))
        rw [hf] at hrow2
        generalize (R.take j ++ List.replicate (n3 - j) false)[j]'hfl = old at *
        generalize l[j]'(by rw [HL.out]; exact hlt) = p at *
        generalize l'[j]'(by rw [HL'.out]; exact hlt) = q at *
        have HROW := hidP hrow2
        clear hc hc' hz hf hfl hrow hrow2 hown hjR
        have hd1 : Ext wr wr.drew := (Ext.refl _).drew
        have hbut : But wr.drew (wr.drew.setCell ⟨g3, j, none⟩ (.bool (f p q))) g3 := (But.refl _ _).store
        go_wp2_with fail
        refine wp_region_plan (R := Ext) (.q 0 (.q 1 (.q 2 (.q 3 (.q 4 (.q 5 (.q 6 (.q 7 (.q 8 (.q 9 (.q 10 (.q 11 (.q 12 (.q 13 (.l 14 (.q 15 (.b 16 .done))))))))))))))))) (by kernel_rfl) (by kernel_rfl) (by kernel_rfl) (by kernel_rfl) Ext.refl (fun _ _ _ => Ext.trans) ?_
        replace bt := Bl.ext hd1 bt (Nat.succ_pos _)
        replace bp := Bl.ext hd1 bp (Nat.succ_pos _)
        replace bq := Bl.ext hd1 bq (Nat.succ_pos _)
        replace fs := Fz.ext hd1 fs bs (Nat.succ_pos _)
        replace bs := Bl.ext hd1 bs (Nat.succ_pos _)
        replace h0 := hd1.cell' h0
        replace k0 := hd1.cell' k0
        replace HC1 := hd1.cell' HC1
        replace HC2 : wr.drew.frozen? ⟨g3, j, none⟩ = false := HC2
        replace HE := HE.trans hd1
        clear hd1
        generalize wr.drew = wd at *
        repeat (refine wpE_q (v := ?_) rfl rfl (fun u hu => ?_) ?_; rotate_left 1; (focus (have kt := Bl.ext hu bt (Nat.succ_pos _); have kp := Bl.ext hu bp (Nat.succ_pos _); have kq := Bl.ext hu bq (Nat.succ_pos _); have kh0 := hu.cell' h0; have kk0 := hu.cell' k0; go_simp; (try rfl))); simp only [Act.put, List.setIfInBounds_toArray, List.set_cons_zero, List.set_cons_succ])
        refine wpE_l rfl rfl (fun K hK => ?_)
        go_simp
        refine (HDO.out _ _ _).mono ?_
        rintro e u5 ⟨rfl, rfl⟩
        refine hK.out _ _ (Ext.refl _) ?_
        clear hK K
        try simp only [Act.put, List.setIfInBounds_toArray, List.set_cons_zero, List.set_cons_succ]
        repeat (refine wpE_q (v := ?_) rfl rfl (fun u hu => ?_) ?_; rotate_left 1; (focus (have kt := Bl.ext hu bt (Nat.succ_pos _); have kp := Bl.ext hu bp (Nat.succ_pos _); have kq := Bl.ext hu bq (Nat.succ_pos _); have kh0 := hu.cell' h0; have kk0 := hu.cell' k0; go_simp; (try rfl))); simp only [Act.put, List.setIfInBounds_toArray, List.set_cons_zero, List.set_cons_succ])
        refine wpE_b rfl rfl (fun K hK => ?_)
        go_simp
        refine hK.out _ _ ?_
        clear hK K
        try simp only [Act.put, List.setIfInBounds_toArray, List.set_cons_zero, List.set_cons_succ]
        refine wpE_done ?_
        go_wp2_with fail
        go_roundw
        case rel => exact ⟨j + 1, by omega, by go_num, HROW.out, hbut.bl bt (Nat.succ_pos _) (by omega), hbut.bl bp (Nat.succ_pos _) (by omega), hbut.bl bq (Nat.succ_pos _) (by omega), hbut.bl bs (Nat.succ_pos _) (by omega), hbut.fz fs bs (Nat.succ_pos _) (by omega), HE.store (by show w.heap.size ≤ g3; omega) _⟩
        case measure => simp only [intOf]; omega
      · obtain rfl : j = n3 := by omega
        have hsR := SlK.of_owns' hown
        rw [Nat.sub_self, List.replicate_zero, List.append_nil, List.take_of_length_le (by omega)] at hsR
        have HSR : Hid (SlB wr (some ⟨g3, 0, none⟩) j c3 R) := hidP hsR
        clear hsR hown
        go_wp2_with fail
        refine absB (fun ue hue => ?_)
        have hbs : Bl ue (w.heap.size + 1 + 1) #[.int .i64 x, .int .i64 y, .slice (some ⟨g3, 0, none⟩) j c3] := by rw [hue]; exact (((bs.set (by simp)).set (by simp)).set (by simp))
        have hnc : ∀ {aa : Option Addr} {nn cc : Nat} {ll : List Bool}, SlB wr aa nn cc ll → SlB ue aa nn cc ll := fun h => by
          rw [hue]
          exact h.but bs (not_bools) ((But.refl _ _).store.store.store)
        have heu : Ext w ue := by rw [hue]; exact ((HE.store (by show w.heap.size ≤ w.heap.size + 1 + 1; omega) _).store (by show w.heap.size ≤ w.heap.size + 1 + 1; omega) _).store (by show w.heap.size ≤ w.heap.size + 1 + 1; omega) _
        clear hue
        refine bodyPost_cells_tmp2 rfl rfl Try.underlying44 rfl (by kernel_rfl) (blk_three hbs) rfl rfl ?_
        rw [HR.out]
        exact ⟨_, _, _, rfl, hnc HSR.out, heu⟩
  · have HR : Hid (twoB f x y n l x' y' n' l' = ((0, 0, []), 2)) := hidP (if_neg hd)
    generalize twoB f x y n l x' y' n' l' = rr at *
    clear HL HL' H H'
    cases hm : mayR x y n
    · rw [hm] at HM
      clear hd hm HM'
      go_enter Try.func95, Try.ntmps95
      go_wp2_with fail
      refine absC (fun x1 hx1 => ?_)
      have hx : Ext w x1 := by rw [hx1]; exact ((((Ext.refl _).alloc _).alloc _).alloc _)
      have bp : Bl x1 (w.heap.size) #[.int .i64 x, .int .i64 y, .slice a n c] := by rw [hx1]; exact (((Bl.new (by simp)).alloc (by simp)).alloc (by simp))
      have bq : Bl x1 (w.heap.size + 1) #[.int .i64 x', .int .i64 y', .slice a' n' c'] := by rw [hx1]; exact ((Bl.new (by simp)).alloc (by simp))
      have bs : Bl x1 (w.heap.size + 1 + 1) #[.int .i64 0, .int .i64 0, .slice none 0 0] := by rw [hx1]; exact (Bl.new (by simp))
      have fs : Fz x1 (w.heap.size + 1 + 1) := by rw [hx1]; exact (Fz.new (by simp))
      have HE := hx
      clear hx
      clear hx1
      refine (HM.out _).mono ?_
      rintro e u1 ⟨rfl, hx⟩
      replace bp := Bl.ext hx bp (Nat.succ_pos _)
      replace bq := Bl.ext hx bq (Nat.succ_pos _)
      replace fs := Fz.ext hx fs bs (Nat.succ_pos _)
      replace bs := Bl.ext hx bs (Nat.succ_pos _)
      replace HE := HE.trans hx
      clear hx
      go_wp2_with fail
      refine absB (fun ue hue => ?_)
      have hbs : Bl ue (w.heap.size + 1 + 1) #[.int .i64 0, .int .i64 0, .slice none 0 0] := by rw [hue]; exact (((bs.set (by simp)).set (by simp)).set (by simp))
      have hnc : ∀ {aa : Option Addr} {nn cc : Nat} {ll : List Bool}, SlB u1 aa nn cc ll → SlB ue aa nn cc ll := fun h => by
        rw [hue]
        exact h.but bs (not_bools) ((But.refl _ _).store.store.store)
      have heu : Ext w ue := by rw [hue]; exact ((HE.store (by show w.heap.size ≤ w.heap.size + 1 + 1; omega) _).store (by show w.heap.size ≤ w.heap.size + 1 + 1; omega) _).store (by show w.heap.size ≤ w.heap.size + 1 + 1; omega) _
      clear hue
      refine bodyPost_cells_tmp2 rfl rfl Try.underlying44 rfl (by kernel_rfl) (blk_three hbs) rfl rfl ?_
      rw [HR.out]
      exact ⟨none, 0, 0, rfl, SlK.nil 1 _, heu⟩
    · cases hm' : mayR x' y' n'
      · rw [hm] at HM
        rw [hm'] at HM'
        clear hd hm hm'
        go_enter Try.func95, Try.ntmps95
        go_wp2_with fail
        refine absC (fun x1 hx1 => ?_)
        have hx : Ext w x1 := by rw [hx1]; exact ((((Ext.refl _).alloc _).alloc _).alloc _)
        have bp : Bl x1 (w.heap.size) #[.int .i64 x, .int .i64 y, .slice a n c] := by rw [hx1]; exact (((Bl.new (by simp)).alloc (by simp)).alloc (by simp))
        have bq : Bl x1 (w.heap.size + 1) #[.int .i64 x', .int .i64 y', .slice a' n' c'] := by rw [hx1]; exact ((Bl.new (by simp)).alloc (by simp))
        have bs : Bl x1 (w.heap.size + 1 + 1) #[.int .i64 0, .int .i64 0, .slice none 0 0] := by rw [hx1]; exact (Bl.new (by simp))
        have fs : Fz x1 (w.heap.size + 1 + 1) := by rw [hx1]; exact (Fz.new (by simp))
        have HE := hx
        clear hx
        clear hx1
        refine (HM.out _).mono ?_
        rintro e u1 ⟨rfl, hx⟩
        replace bp := Bl.ext hx bp (Nat.succ_pos _)
        replace bq := Bl.ext hx bq (Nat.succ_pos _)
        replace fs := Fz.ext hx fs bs (Nat.succ_pos _)
        replace bs := Bl.ext hx bs (Nat.succ_pos _)
        replace HE := HE.trans hx
        clear hx
        go_wp2_with fail
        refine (HM'.out _).mono ?_
        rintro e u2 ⟨rfl, hx⟩
        replace bp := Bl.ext hx bp (Nat.succ_pos _)
        replace bq := Bl.ext hx bq (Nat.succ_pos _)
        replace fs := Fz.ext hx fs bs (Nat.succ_pos _)
        replace bs := Bl.ext hx bs (Nat.succ_pos _)
        replace HE := HE.trans hx
        clear hx
        go_wp2_with fail
        refine absB (fun ue hue => ?_)
        have hbs : Bl ue (w.heap.size + 1 + 1) #[.int .i64 0, .int .i64 0, .slice none 0 0] := by rw [hue]; exact (((bs.set (by simp)).set (by simp)).set (by simp))
        have hnc : ∀ {aa : Option Addr} {nn cc : Nat} {ll : List Bool}, SlB u2 aa nn cc ll → SlB ue aa nn cc ll := fun h => by
          rw [hue]
          exact h.but bs (not_bools) ((But.refl _ _).store.store.store)
        have heu : Ext w ue := by rw [hue]; exact ((HE.store (by show w.heap.size ≤ w.heap.size + 1 + 1; omega) _).store (by show w.heap.size ≤ w.heap.size + 1 + 1; omega) _).store (by show w.heap.size ≤ w.heap.size + 1 + 1; omega) _
        clear hue
        refine bodyPost_cells_tmp2 rfl rfl Try.underlying44 rfl (by kernel_rfl) (blk_three hbs) rfl rfl ?_
        rw [HR.out]
        exact ⟨none, 0, 0, rfl, SlK.nil 1 _, heu⟩
      · rw [hm] at HM
        rw [hm'] at HM'
        have hcs : x ≠ x' ∨ (x = x' ∧ y ≠ y') := by
          have : ¬ (x = x' ∧ y = y') := fun h => hd ⟨hm, hm', h.1, h.2⟩
          omega
        clear hd hm hm'
        rcases hcs with h1 | ⟨rfl, h1⟩
        · have hb : (x == x') = false := by simpa using h1
          go_enter Try.func95, Try.ntmps95
          go_wp2_with fail
          refine absC (fun x1 hx1 => ?_)
          have hx : Ext w x1 := by rw [hx1]; exact ((((Ext.refl _).alloc _).alloc _).alloc _)
          have bp : Bl x1 (w.heap.size) #[.int .i64 x, .int .i64 y, .slice a n c] := by rw [hx1]; exact (((Bl.new (by simp)).alloc (by simp)).alloc (by simp))
          have bq : Bl x1 (w.heap.size + 1) #[.int .i64 x', .int .i64 y', .slice a' n' c'] := by rw [hx1]; exact ((Bl.new (by simp)).alloc (by simp))
          have bs : Bl x1 (w.heap.size + 1 + 1) #[.int .i64 0, .int .i64 0, .slice none 0 0] := by rw [hx1]; exact (Bl.new (by simp))
          have fs : Fz x1 (w.heap.size + 1 + 1) := by rw [hx1]; exact (Fz.new (by simp))
          have HE := hx
          clear hx
          clear hx1
          refine (HM.out _).mono ?_
          rintro e u1 ⟨rfl, hx⟩
          replace bp := Bl.ext hx bp (Nat.succ_pos _)
          replace bq := Bl.ext hx bq (Nat.succ_pos _)
          replace fs := Fz.ext hx fs bs (Nat.succ_pos _)
          replace bs := Bl.ext hx bs (Nat.succ_pos _)
          replace HE := HE.trans hx
          clear hx
          go_wp2_with fail
          refine (HM'.out _).mono ?_
          rintro e u2 ⟨rfl, hx⟩
          replace bp := Bl.ext hx bp (Nat.succ_pos _)
          replace bq := Bl.ext hx bq (Nat.succ_pos _)
          replace fs := Fz.ext hx fs bs (Nat.succ_pos _)
          replace bs := Bl.ext hx bs (Nat.succ_pos _)
          replace HE := HE.trans hx
          clear hx
          go_wp2_with fail
          refine absB (fun ue hue => ?_)
          have hbs : Bl ue (w.heap.size + 1 + 1) #[.int .i64 0, .int .i64 0, .slice none 0 0] := by rw [hue]; exact (((bs.set (by simp)).set (by simp)).set (by simp))
          have hnc : ∀ {aa : Option Addr} {nn cc : Nat} {ll : List Bool}, SlB u2 aa nn cc ll → SlB ue aa nn cc ll := fun h => by
            rw [hue]
            exact h.but bs (not_bools) ((But.refl _ _).store.store.store)
          have heu : Ext w ue := by rw [hue]; exact ((HE.store (by show w.heap.size ≤ w.heap.size + 1 + 1; omega) _).store (by show w.heap.size ≤ w.heap.size + 1 + 1; omega) _).store (by show w.heap.size ≤ w.heap.size + 1 + 1; omega) _
          clear hue
          refine bodyPost_cells_tmp2 rfl rfl Try.underlying44 rfl (by kernel_rfl) (blk_three hbs) rfl rfl ?_
          rw [HR.out]
          exact ⟨none, 0, 0, rfl, SlK.nil 1 _, heu⟩
        · have hb : (y == y') = false := by simpa using h1
          go_enter Try.func95, Try.ntmps95
          go_wp2_with fail
          refine absC (fun x1 hx1 => ?_)
          have hx : Ext w x1 := by rw [hx1]; exact ((((Ext.refl _).alloc _).alloc _).alloc _)
          have bp : Bl x1 (w.heap.size) #[.int .i64 x, .int .i64 y, .slice a n c] := by rw [hx1]; exact (((Bl.new (by simp)).alloc (by simp)).alloc (by simp))
          have bq : Bl x1 (w.heap.size + 1) #[.int .i64 x, .int .i64 y', .slice a' n' c'] := by rw [hx1]; exact ((Bl.new (by simp)).alloc (by simp))
          have bs : Bl x1 (w.heap.size + 1 + 1) #[.int .i64 0, .int .i64 0, .slice none 0 0] := by rw [hx1]; exact (Bl.new (by simp))
          have fs : Fz x1 (w.heap.size + 1 + 1) := by rw [hx1]; exact (Fz.new (by simp))
          have HE := hx
          clear hx
          clear hx1
          refine (HM.out _).mono ?_
          rintro e u1 ⟨rfl, hx⟩
          replace bp := Bl.ext hx bp (Nat.succ_pos _)
          replace bq := Bl.ext hx bq (Nat.succ_pos _)
          replace fs := Fz.ext hx fs bs (Nat.succ_pos _)
          replace bs := Bl.ext hx bs (Nat.succ_pos _)
          replace HE := HE.trans hx
          clear hx
          go_wp2_with fail
          refine (HM'.out _).mono ?_
          rintro e u2 ⟨rfl, hx⟩
          replace bp := Bl.ext hx bp (Nat.succ_pos _)
          replace bq := Bl.ext hx bq (Nat.succ_pos _)
          replace fs := Fz.ext hx fs bs (Nat.succ_pos _)
          replace bs := Bl.ext hx bs (Nat.succ_pos _)
          replace HE := HE.trans hx
          clear hx
          go_wp2_with fail
          refine absB (fun ue hue => ?_)
          have hbs : Bl ue (w.heap.size + 1 + 1) #[.int .i64 0, .int .i64 0, .slice none 0 0] := by rw [hue]; exact (((bs.set (by simp)).set (by simp)).set (by simp))
          have hnc : ∀ {aa : Option Addr} {nn cc : Nat} {ll : List Bool}, SlB u2 aa nn cc ll → SlB ue aa nn cc ll := fun h => by
            rw [hue]
            exact h.but bs (not_bools) ((But.refl _ _).store.store.store)
          have heu : Ext w ue := by rw [hue]; exact ((HE.store (by show w.heap.size ≤ w.heap.size + 1 + 1; omega) _).store (by show w.heap.size ≤ w.heap.size + 1 + 1; omega) _).store (by show w.heap.size ≤ w.heap.size + 1 + 1; omega) _
          clear hue
          refine bodyPost_cells_tmp2 rfl rfl Try.underlying44 rfl (by kernel_rfl) (blk_three hbs) rfl rfl ?_
          rw [HR.out]
          exact ⟨none, 0, 0, rfl, SlK.nil 1 _, heu⟩

set_option maxRecDepth 100000 in
set_option maxHeartbeats 8000000 in
theorem c_Both1 (p q : Bool) (w : World) : Calls Try.prog 96 #[.bool p, .bool q] w fun e w' => e = .returned (.bool ((fun p q => p && q) p q)) ∧ w = w' := by
  cases p <;> cases q
  all_goals (
    go_enter Try.func96, Try.ntmps96
    go_wp2_with fail
    go_ret
    exact ⟨rfl, rfl⟩)

set_option maxRecDepth 100000 in
set_option maxHeartbeats 8000000 in
theorem c_Both (x y x' y' : Int) (a a' : Option Addr) (n c n' c' : Nat) (l l' : List Bool) (w : World) (h : SlB w a n c l) (h' : SlB w a' n' c' l') :
    Calls Try.prog 36 #[rst x y a n c, rst x' y' a' n' c'] w (RetBE w (twoB (fun p q => p && q) x y n l x' y' n' l')) := by
  have H := hidP h; have H' := hidP h'
  have HC := hidP (fun u (t : SlB u a n c l) (t' : SlB u a' n' c' l') => c_each 96 (fun p q => p && q) x y x' y' a a' n c n' c' l l' u t t' (callFunc_go Try.func96 (by kernel_rfl) (by kernel_rfl)) c_Both1)
  clear h h'
  generalize twoB (fun p q => p && q) x y n l x' y' n' l' = rr at *
  obtain ⟨⟨r0, r1, r2⟩, r3⟩ := rr
  go_enter Try.func36, Try.ntmps36
  go_wp2_with fail
  refine absC (fun x1 hx1 => ?_)
  have hx : Ext w x1 := by rw [hx1]; exact ((((Ext.refl _).alloc _).alloc _).alloc _)
  have bp : Bl x1 (w.heap.size) #[.int .i64 x, .int .i64 y, .slice a n c] := by rw [hx1]; exact (((Bl.new (by simp)).alloc (by simp)).alloc (by simp))
  have bq : Bl x1 (w.heap.size + 1) #[.int .i64 x', .int .i64 y', .slice a' n' c'] := by rw [hx1]; exact ((Bl.new (by simp)).alloc (by simp))
  have bs : Bl x1 (w.heap.size + 1 + 1) #[.int .i64 0, .int .i64 0, .slice none 0 0] := by rw [hx1]; exact (Bl.new (by simp))
  have fs : Fz x1 (w.heap.size + 1 + 1) := by rw [hx1]; exact (Fz.new (by simp))
  have HE := hx
  clear hx
  clear hx1
  refine (HC.out _ (H.out.ext HE) (H'.out.ext HE)).mono ?_
  rintro e u1 ⟨a1, n1, c1, rfl, hs1, hx⟩
  replace bp := Bl.ext hx bp (Nat.succ_pos _)
  replace bq := Bl.ext hx bq (Nat.succ_pos _)
  replace fs := Fz.ext hx fs bs (Nat.succ_pos _)
  replace bs := Bl.ext hx bs (Nat.succ_pos _)
  replace HE := HE.trans hx
  clear hx
  replace hs1 : SlB u1 a1 n1 c1 r2 := hs1
  have HS := hidP hs1
  clear hs1
  go_wp2_with fail
  refine absB (fun ue hue => ?_)
  have hbs : Bl ue (w.heap.size + 1 + 1) #[.int .i64 r0, .int .i64 r1, .slice a1 n1 c1] := by rw [hue]; exact (((bs.set (by simp)).set (by simp)).set (by simp))
  have hnc : ∀ {aa : Option Addr} {nn cc : Nat} {ll : List Bool}, SlB u1 aa nn cc ll → SlB ue aa nn cc ll := fun h => by
    rw [hue]
    exact h.but bs (not_bools) ((But.refl _ _).store.store.store)
  have heu : Ext w ue := by rw [hue]; exact ((HE.store (by show w.heap.size ≤ w.heap.size + 1 + 1; omega) _).store (by show w.heap.size ≤ w.heap.size + 1 + 1; omega) _).store (by show w.heap.size ≤ w.heap.size + 1 + 1; omega) _
  clear hue
  refine bodyPost_cells_tmp2 rfl rfl Try.underlying44 rfl (by kernel_rfl) (blk_three hbs) rfl rfl ?_
  exact ⟨_, _, _, rfl, hnc HS.out, heu⟩

set_option maxRecDepth 100000 in
set_option maxHeartbeats 8000000 in
theorem c_Either1 (p q : Bool) (w : World) : Calls Try.prog 97 #[.bool p, .bool q] w fun e w' => e = .returned (.bool ((fun p q => p || q) p q)) ∧ w = w' := by
  cases p <;> cases q
  all_goals (
    go_enter Try.func97, Try.ntmps97
    go_wp2_with fail
    go_ret
    exact ⟨rfl, rfl⟩)

set_option maxRecDepth 100000 in
set_option maxHeartbeats 8000000 in
theorem c_Either (x y x' y' : Int) (a a' : Option Addr) (n c n' c' : Nat) (l l' : List Bool) (w : World) (h : SlB w a n c l) (h' : SlB w a' n' c' l') :
    Calls Try.prog 39 #[rst x y a n c, rst x' y' a' n' c'] w (RetBE w (twoB (fun p q => p || q) x y n l x' y' n' l')) := by
  have H := hidP h; have H' := hidP h'
  have HC := hidP (fun u (t : SlB u a n c l) (t' : SlB u a' n' c' l') => c_each 97 (fun p q => p || q) x y x' y' a a' n c n' c' l l' u t t' (callFunc_go Try.func97 (by kernel_rfl) (by kernel_rfl)) c_Either1)
  clear h h'
  generalize twoB (fun p q => p || q) x y n l x' y' n' l' = rr at *
  obtain ⟨⟨r0, r1, r2⟩, r3⟩ := rr
  go_enter Try.func39, Try.ntmps39
  go_wp2_with fail
  refine absC (fun x1 hx1 => ?_)
  have hx : Ext w x1 := by rw [hx1]; exact ((((Ext.refl _).alloc _).alloc _).alloc _)
  have bp : Bl x1 (w.heap.size) #[.int .i64 x, .int .i64 y, .slice a n c] := by rw [hx1]; exact (((Bl.new (by simp)).alloc (by simp)).alloc (by simp))
  have bq : Bl x1 (w.heap.size + 1) #[.int .i64 x', .int .i64 y', .slice a' n' c'] := by rw [hx1]; exact ((Bl.new (by simp)).alloc (by simp))
  have bs : Bl x1 (w.heap.size + 1 + 1) #[.int .i64 0, .int .i64 0, .slice none 0 0] := by rw [hx1]; exact (Bl.new (by simp))
  have fs : Fz x1 (w.heap.size + 1 + 1) := by rw [hx1]; exact (Fz.new (by simp))
  have HE := hx
  clear hx
  clear hx1
  refine (HC.out _ (H.out.ext HE) (H'.out.ext HE)).mono ?_
  rintro e u1 ⟨a1, n1, c1, rfl, hs1, hx⟩
  replace bp := Bl.ext hx bp (Nat.succ_pos _)
  replace bq := Bl.ext hx bq (Nat.succ_pos _)
  replace fs := Fz.ext hx fs bs (Nat.succ_pos _)
  replace bs := Bl.ext hx bs (Nat.succ_pos _)
  replace HE := HE.trans hx
  clear hx
  replace hs1 : SlB u1 a1 n1 c1 r2 := hs1
  have HS := hidP hs1
  clear hs1
  go_wp2_with fail
  refine absB (fun ue hue => ?_)
  have hbs : Bl ue (w.heap.size + 1 + 1) #[.int .i64 r0, .int .i64 r1, .slice a1 n1 c1] := by rw [hue]; exact (((bs.set (by simp)).set (by simp)).set (by simp))
  have hnc : ∀ {aa : Option Addr} {nn cc : Nat} {ll : List Bool}, SlB u1 aa nn cc ll → SlB ue aa nn cc ll := fun h => by
    rw [hue]
    exact h.but bs (not_bools) ((But.refl _ _).store.store.store)
  have heu : Ext w ue := by rw [hue]; exact ((HE.store (by show w.heap.size ≤ w.heap.size + 1 + 1; omega) _).store (by show w.heap.size ≤ w.heap.size + 1 + 1; omega) _).store (by show w.heap.size ≤ w.heap.size + 1 + 1; omega) _
  clear hue
  refine bodyPost_cells_tmp2 rfl rfl Try.underlying44 rfl (by kernel_rfl) (blk_three hbs) rfl rfl ?_
  exact ⟨_, _, _, rfl, hnc HS.out, heu⟩

set_option maxRecDepth 100000 in
set_option maxHeartbeats 8000000 in
theorem c_Without1 (p q : Bool) (w : World) : Calls Try.prog 98 #[.bool p, .bool q] w fun e w' => e = .returned (.bool ((fun p q => p && !q) p q)) ∧ w = w' := by
  cases p <;> cases q
  all_goals (
    go_enter Try.func98, Try.ntmps98
    go_wp2_with fail
    go_ret
    exact ⟨rfl, rfl⟩)

set_option maxRecDepth 100000 in
set_option maxHeartbeats 8000000 in
theorem c_Without (x y x' y' : Int) (a a' : Option Addr) (n c n' c' : Nat) (l l' : List Bool) (w : World) (h : SlB w a n c l) (h' : SlB w a' n' c' l') :
    Calls Try.prog 40 #[rst x y a n c, rst x' y' a' n' c'] w (RetBE w (twoB (fun p q => p && !q) x y n l x' y' n' l')) := by
  have H := hidP h; have H' := hidP h'
  have HC := hidP (fun u (t : SlB u a n c l) (t' : SlB u a' n' c' l') => c_each 98 (fun p q => p && !q) x y x' y' a a' n c n' c' l l' u t t' (callFunc_go Try.func98 (by kernel_rfl) (by kernel_rfl)) c_Without1)
  clear h h'
  generalize twoB (fun p q => p && !q) x y n l x' y' n' l' = rr at *
  obtain ⟨⟨r0, r1, r2⟩, r3⟩ := rr
  go_enter Try.func40, Try.ntmps40
  go_wp2_with fail
  refine absC (fun x1 hx1 => ?_)
  have hx : Ext w x1 := by rw [hx1]; exact ((((Ext.refl _).alloc _).alloc _).alloc _)
  have bp : Bl x1 (w.heap.size) #[.int .i64 x, .int .i64 y, .slice a n c] := by rw [hx1]; exact (((Bl.new (by simp)).alloc (by simp)).alloc (by simp))
  have bq : Bl x1 (w.heap.size + 1) #[.int .i64 x', .int .i64 y', .slice a' n' c'] := by rw [hx1]; exact ((Bl.new (by simp)).alloc (by simp))
  have bs : Bl x1 (w.heap.size + 1 + 1) #[.int .i64 0, .int .i64 0, .slice none 0 0] := by rw [hx1]; exact (Bl.new (by simp))
  have fs : Fz x1 (w.heap.size + 1 + 1) := by rw [hx1]; exact (Fz.new (by simp))
  have HE := hx
  clear hx
  clear hx1
  refine (HC.out _ (H.out.ext HE) (H'.out.ext HE)).mono ?_
  rintro e u1 ⟨a1, n1, c1, rfl, hs1, hx⟩
  replace bp := Bl.ext hx bp (Nat.succ_pos _)
  replace bq := Bl.ext hx bq (Nat.succ_pos _)
  replace fs := Fz.ext hx fs bs (Nat.succ_pos _)
  replace bs := Bl.ext hx bs (Nat.succ_pos _)
  replace HE := HE.trans hx
  clear hx
  replace hs1 : SlB u1 a1 n1 c1 r2 := hs1
  have HS := hidP hs1
  clear hs1
  go_wp2_with fail
  refine absB (fun ue hue => ?_)
  have hbs : Bl ue (w.heap.size + 1 + 1) #[.int .i64 r0, .int .i64 r1, .slice a1 n1 c1] := by rw [hue]; exact (((bs.set (by simp)).set (by simp)).set (by simp))
  have hnc : ∀ {aa : Option Addr} {nn cc : Nat} {ll : List Bool}, SlB u1 aa nn cc ll → SlB ue aa nn cc ll := fun h => by
    rw [hue]
    exact h.but bs (not_bools) ((But.refl _ _).store.store.store)
  have heu : Ext w ue := by rw [hue]; exact ((HE.store (by show w.heap.size ≤ w.heap.size + 1 + 1; omega) _).store (by show w.heap.size ≤ w.heap.size + 1 + 1; omega) _).store (by show w.heap.size ≤ w.heap.size + 1 + 1; omega) _
  clear hue
  refine bodyPost_cells_tmp2 rfl rfl Try.underlying44 rfl (by kernel_rfl) (blk_three hbs) rfl rfl ?_
  exact ⟨_, _, _, rfl, hnc HS.out, heu⟩

set_option maxRecDepth 100000 in
set_option maxHeartbeats 8000000 in
theorem c_Flip1 (p q : Bool) (w : World) : Calls Try.prog 99 #[.bool p, .bool q] w fun e w' => e = .returned (.bool ((fun p _ => !p) p q)) ∧ w = w' := by
  cases p <;> cases q
  all_goals (
    go_enter Try.func99, Try.ntmps99
    go_wp2_with fail
    go_ret
    exact ⟨rfl, rfl⟩)

set_option maxRecDepth 100000 in
set_option maxHeartbeats 8000000 in
theorem c_Flip (x y : Int) (a : Option Addr) (n c : Nat) (l : List Bool) (w : World) (h : SlB w a n c l) :
    Calls Try.prog 41 #[rst x y a n c] w (RetBE w (flipB x y n l)) := by
  have H := hidP h
  have HC := hidP (fun u (t : SlB u a n c l) => c_each 99 (fun p _ => !p) x y x y a a n c n c l l u t t (callFunc_go Try.func99 (by kernel_rfl) (by kernel_rfl)) c_Flip1)
  have e0 : twoB (fun p _ => !p) x y n l x y n l = flipB x y n l := by
    unfold twoB flipB
    by_cases hm : mayR x y n = true
    · rw [if_pos ⟨hm, hm, rfl, rfl⟩, if_pos hm]
      rw [zip_flip]
    · rw [if_neg (fun h => hm h.1), if_neg hm]
  rw [e0] at HC
  clear h e0
  generalize flipB x y n l = rr at *
  obtain ⟨⟨r0, r1, r2⟩, r3⟩ := rr
  go_enter Try.func41, Try.ntmps41
  go_wp2_with fail
  refine absC (fun x1 hx1 => ?_)
  have hx : Ext w x1 := by rw [hx1]; exact (((Ext.refl _).alloc _).alloc _)
  have bp : Bl x1 (w.heap.size) #[.int .i64 x, .int .i64 y, .slice a n c] := by rw [hx1]; exact ((Bl.new (by simp)).alloc (by simp))
  have bs : Bl x1 (w.heap.size + 1) #[.int .i64 0, .int .i64 0, .slice none 0 0] := by rw [hx1]; exact (Bl.new (by simp))
  have fs : Fz x1 (w.heap.size + 1) := by rw [hx1]; exact (Fz.new (by simp))
  have HE := hx
  clear hx
  clear hx1
  refine (HC.out _ (H.out.ext HE)).mono ?_
  rintro e u1 ⟨a1, n1, c1, rfl, hs1, hx⟩
  replace bp := Bl.ext hx bp (Nat.succ_pos _)
  replace fs := Fz.ext hx fs bs (Nat.succ_pos _)
  replace bs := Bl.ext hx bs (Nat.succ_pos _)
  replace HE := HE.trans hx
  clear hx
  replace hs1 : SlB u1 a1 n1 c1 r2 := hs1
  have HS := hidP hs1
  clear hs1
  go_wp2_with fail
  refine absB (fun ue hue => ?_)
  have hbs : Bl ue (w.heap.size + 1) #[.int .i64 r0, .int .i64 r1, .slice a1 n1 c1] := by rw [hue]; exact (((bs.set (by simp)).set (by simp)).set (by simp))
  have hnc : ∀ {aa : Option Addr} {nn cc : Nat} {ll : List Bool}, SlB u1 aa nn cc ll → SlB ue aa nn cc ll := fun h => by
    rw [hue]
    exact h.but bs (not_bools) ((But.refl _ _).store.store.store)
  have heu : Ext w ue := by rw [hue]; exact ((HE.store (by show w.heap.size ≤ w.heap.size + 1; omega) _).store (by show w.heap.size ≤ w.heap.size + 1; omega) _).store (by show w.heap.size ≤ w.heap.size + 1; omega) _
  clear hue
  refine bodyPost_cells_tmp2 rfl rfl Try.underlying44 rfl (by kernel_rfl) (blk_three hbs) rfl rfl ?_
  exact ⟨_, _, _, rfl, hnc HS.out, heu⟩

end Go.Proofs.Ytogcmnagiepofaa
