/- Turns, in the document: the ways around an area. -/
import Derived.Test.YtgjjalnmigdjgaaGreatPB
import Derived.Test.YtgjjalnmigdjgaaGreatU5
namespace Go.Proofs.YtgjjalnmigdjgaaGreat
set_option linter.unusedVariables false
set_option linter.unusedSimpArgs false
open Go Go.RowKit
/-- The ways around points; f is the first one. -/
def ringA (f : Int × Int) : List (Int × Int) → List Sg
  | [] => []
  | p :: t => (if t.headD f = p then [] else [(p, t.headD f)]) ++ ringA f t
theorem headD_drop {l : List (Int × Int)} {f : Int × Int} {j : Nat} : (l.drop j).headD f = if h : j < l.length then l[j] else f := by
  split
  · rename_i h
    rw [List.drop_eq_getElem_cons h]
    rfl
  · rename_i h
    rw [List.drop_of_length_le (by omega)]
    rfl
theorem ring_drop {l : List (Int × Int)} {f : Int × Int} {j : Nat} (h : j < l.length) : ringA f (l.drop j) = (if (if h2 : j + 1 < l.length then l[j + 1] else f) = l[j] then [] else [(l[j], if h2 : j + 1 < l.length then l[j + 1] else f)]) ++ ringA f (l.drop (j + 1)) := by
  rw [List.drop_eq_getElem_cons h]
  show (if (l.drop (j + 1)).headD f = l[j] then [] else [(l[j], (l.drop (j + 1)).headD f)]) ++ _ = _
  rw [headD_drop]
theorem T_seg : SlTK Tryz.prog 22 53 4 (.agg #[.int .i64 0, .int .i64 0, .int .i64 0, .int .i64 0]) 32 :=
  let ⟨i, h1, h2, h3, h4⟩ := info_parts (P := Tryz.prog) (e := 53) (z := .agg #[.int .i64 0, .int .i64 0, .int .i64 0, .int .i64 0]) (size := 4) (bytes := 32) (by kernel_rfl); ⟨Tryz.underlying22, by omega, i, h1, h2, h3, h4, rfl⟩
theorem ends_seg (a b c d : Int) : ∀ u ∈ [Value.int .i64 a, Value.int .i64 b, Value.int .i64 c, Value.int .i64 d], u.oneCell' = true := by
  intro u hu
  simp at hu
  rcases hu with rfl | rfl | rfl | rfl <;> rfl
theorem cell_new {w : World} {cs : Array Value} {e : TypeId} : ∀ (j : Nat) (u : Value), cs.toList[j]? = some u → (w.alloc (.cells cs e)).cell? ((⟨w.heap.size, 0, none⟩ : Addr).add j) = some u := by
  intro j u hj
  have hb := Bl.new (e := e) (cs := cs) (rfl : w.heap.size = w.heap.size) j
  have e1 : (⟨w.heap.size, 0, none⟩ : Addr).add j = ⟨w.heap.size, j, none⟩ := by unfold Addr.add; split <;> simp_all
  rw [e1, hb, ← hj]
  simp
theorem ext_but {w u : World} {g : Nat} (he : Ext w u) : But w u g := ⟨he.size, fun k hk _ => he.block k hk⟩
theorem own_r0 {v : Value} {B n : Nat} (h : ∀ k, v.ownBlock = some k → B ≤ k ∧ k < n) : ∃ r0, (∀ r, v.ownBlock = some r → r = r0) ∧ n ≠ r0 := by
  cases hv : v.ownBlock with
  | none => exact ⟨n + 1, fun r hr => (by cases hr), by omega⟩
  | some k => exact ⟨k, fun r hr => (by cases hr; rfl), by have := h k hv; omega⟩
/-- An append that tells which block it may have changed. -/
theorem wp_appR {P : Program} {o : Oper} {a : Act} {K' : Act → World → Prop} {Q : Exit → Act → World → Prop} {w : World} {t e : TypeId} {K B r0 : Nat} {z : Value} {bytes : Nat} (hT : SlTK P t e K z bytes)
    (s x : Operand) (ho : o.op = .call { callee := .builtin .append, args := #[s, x], argTypes := #[t, t] })
    {v : Value} {n : Nat} {xs : List Value} (hown : w.ownsRow B e K v n xs) (hr0 : ∀ r, v.ownBlock = some r → r = r0) (hB : B ≤ w.heap.size) {ad : Addr} {m c : Nat} (news : List Value) (hs : a.eval s = v) (hx : a.eval x = .slice (some ad) m c)
    (hl : news.length = m * K) (hnews : ∀ j u, news[j]? = some u → w.cell? (ad.add j) = some u) (h1 : ∀ u ∈ news, u.oneCell' = true) (hb : n + m ≤ 17592186044416) (hb' : (n + m) * bytes ≤ 140737488355328)
    (h : ∀ v' w', w'.ownsRow B e K v' (n + m) (xs ++ news) → Below B w w' → But w w' r0 → K' (a.put o.dst v') w') : o.wp P a w K' Q := by
  obtain ⟨ht, hK, i, hi, hz, hsz, hby, hzs⟩ := hT
  refine wp_append_own w s x t ho B e i z K bytes ht hi hz hsz hby hzs hK v n xs hs hown ad m c news hx hl hnews h1 (by unfold maxLen; omega) hb' hB ?_
  intro v' w' g1 g2 _
  exact h v' w' g1 (Below.grown (Below.refl B w) g2 hB (fun k hk => (hown.lt k hk).1)) ⟨g2.size, fun k hk hne => g2.block k hk (fun e => hne (hr0 k e.symm))⟩
/-- The call hands back ways. -/
def RetG (w : World) (l : List Sg) (e : Ending) (w' : World) : Prop := ∃ a n cap, e = .returned (.slice a n cap) ∧ SlG w' a n cap l ∧ Ext w w'
set_option maxRecDepth 100000 in
set_option maxHeartbeats 8000000 in
theorem r19_Ring (sa : Option Addr) (sn sc : Nat) (l : List (Int × Int)) (w : World) (h : SlP w sa sn sc l) (hsn : sn ≤ 4194304) :
    Calls Tryz.prog 43 #[.slice sa sn sc] w (RetG w (ringA (l.headD (0, 0)) l)) := by
 have H := hidP h
 have HLN := hidP h.len
 have hcap : sn ≤ maxLen := Nat.le_trans h.2.1 h.2.2.1
 unfold maxLen at hcap
 have HHD := hidP (fun (h0 : 0 < l.length) => show l.headD (0, 0) = l[0] by cases l with | nil => exact absurd h0 (by simp) | cons x r => rfl)
 have HST := hidP (fun (f : Int × Int) (j : Nat) (hj : j < l.length) => ring_drop (f := f) hj)
 generalize l.headD (0, 0) = f at *
 have HJ0 : Hid (([] : List Sg) ++ ringA f (l.drop 0) = ringA f l) := hidP rfl
 clear h
 generalize ringA f l = R at *
 go_enter Tryz.func43, Tryz.ntmps43
 go_wp2_with fail
 go_loopw [3, 4] (fun ov iv wr => ∃ (j : Nat) (os : List Sg), j ≤ sn ∧ iv = .int .i64 (j : Int) ∧ os.length ≤ j ∧ wr.ownsRow w.heap.size 53 4 ov os.length (sgs os) ∧ Hid (os ++ ringA f (l.drop j) = R) ∧ Ext w wr) (fun _ iv _ => sn - (intOf iv).toNat)
 case atStart => exact ⟨0, [], by omega, rfl, Nat.le_refl _, own_nil _ _ _ _, HJ0, Ext.refl _⟩
 clear HJ0
 obtain ⟨j, os, hj, rfl, hos, hown, HJ, HE⟩ := hrel
 by_cases hlt : j < sn
 · obtain ⟨g, off, rfl, hc⟩ := (H.out.ext HE).at (by omega)
   have hjl : j < l.length := by rw [HLN.out]; exact hlt
   obtain ⟨z0, z1⟩ := hc j hjl
   obtain ⟨f0, f1⟩ := hc 0 (by omega)
   rw [← HHD.out (by omega)] at f0 f1
   rw [Nat.zero_mul, Nat.add_zero] at f0 f1
   have hst := HST.out f j hjl
   have hj2 := HJ.out
   rw [hst, ← List.append_assoc] at hj2
   clear HJ hst
   have hg0 : g < w.heap.size := by
    obtain ⟨g', off', e', hc'⟩ := H.out.at (by omega)
    obtain ⟨rfl, rfl⟩ : g = g' ∧ off = off' := by simpa using e'
    exact cell_lt (hc' j hjl).1
   have lgg : g < wr.heap.size := cell_lt z0
   have hwl := HE.size
   have HO1 := hidP hown.lt
   obtain ⟨r0, hr0, hvr⟩ := own_r0 hown.lt
   by_cases hl2 : j + 1 < sn
   · have hj1 : j + 1 < l.length := by rw [HLN.out]; exact hl2
     obtain ⟨y0, y1⟩ := hc (j + 1) hj1
     rw [dif_pos hj1] at hj2
     clear hc
     generalize l[j + 1] = bb at *
     generalize l[j] = pp at *
     obtain ⟨bx, b_y⟩ := bb
     obtain ⟨px, py⟩ := pp
     obtain ⟨fx, fy⟩ := f
     simp only [] at f0 f1 z0 z1 y0 y1
     go_upto_region 6 with fail
     refine absW (fun x1 hx1 => ?_)
     have hx : Ext wr x1 := by rw [hx1]; exact (Ext.refl _).alloc _
     have bv : Bl x1 wr.heap.size #[.int .i64 fx, .int .i64 fy] := by rw [hx1]; exact Bl.new (by simp)
     have fv : Fz x1 wr.heap.size := by rw [hx1]; exact Fz.new (by simp)
     replace hown := own_ext hown hx
     replace z0 := hx.cell' z0
     replace z1 := hx.cell' z1
     replace y0 := hx.cell' y0
     replace y1 := hx.cell' y1
     replace HE := HE.trans hx
     clear hx
     clear hx1 f0 f1
     go_upto_region 8 with fail
     refine absW (fun x21 hx21 => ?_)
     have hbut : But x1 x21 (wr.heap.size) := by rw [hx21]; exact (But.refl _ _).store.store
     have hbn : Bl x21 (wr.heap.size) #[.int .i64 bx, .int .i64 b_y] := by rw [hx21]; exact (Bl.set (Bl.set bv (by simp)) (by simp))
     replace hown := own_but hown hbut (fun r e => by have := HO1.out r e; omega)
     replace z0 := But.cell hbut z0 (by show g ≠ _; omega)
     replace z1 := But.cell hbut z1 (by show g ≠ _; omega)
     replace y0 := But.cell hbut y0 (by show g ≠ _; omega)
     replace y1 := But.cell hbut y1 (by show g ≠ _; omega)
     replace fv : Fz x21 (wr.heap.size) := by rw [hx21]; exact (Fz.set (Fz.set fv))
     replace HE : Ext w x21 := by rw [hx21]; exact ((HE.store (by show w.heap.size ≤ wr.heap.size; omega) _).store (by show w.heap.size ≤ wr.heap.size; omega) _)
     clear bv hbut hx21
     have bv := hbn
     clear hbn
     go_wp2_with fail
     by_cases heq : ((bx, b_y) : Int × Int) = (px, py)
     · have hj3 : Hid (os ++ ringA (fx, fy) (l.drop (j + 1)) = R) := hidP (by rw [if_pos heq, List.append_nil] at hj2; exact hj2)
       simp only [Prod.mk.injEq] at heq
       obtain ⟨rfl, rfl⟩ := heq
       clear hj2
       refine wp_region_plan (R := Ext) (.q 0 (.q 1 (.q 2 (.q 3 (.q 4 (.q 5 .done)))))) (by kernel_rfl) (by kernel_rfl) (by kernel_rfl) (by kernel_rfl) Ext.refl (fun _ _ _ => Ext.trans) ?_
       refine absE (fun x22 hx22 => ?_)
       have hx : Ext x21 x22 := by rw [hx22]; exact (Ext.refl _).drew
       replace hown := own_ext hown hx
       replace fv := q1f hx fv bv
       replace bv := q1b hx bv
       replace z0 := hx.cell' z0
       replace z1 := hx.cell' z1
       replace y0 := hx.cell' y0
       replace y1 := hx.cell' y1
       replace HE := HE.trans hx
       clear hx
       clear hx22
       repeat (refine wpE_q (v := ?_) rfl rfl (fun u hu => ?_) ?_; rotate_left 1; (focus (have kv := q1b hu bv; have kz0 := hu.cell' z0; have kz1 := hu.cell' z1; have ky0 := hu.cell' y0; have ky1 := hu.cell' y1; go_simp; (try rfl))); simp only [PU])
       refine wpE_done ?_
       go_wp2_with fail
       go_roundw
       case rel => exact ⟨j + 1, os, by omega, by go_num, by omega, hown, hj3, HE⟩
       case measure => simp only [intOf]; omega
     by_cases hq : bx = px
     · obtain rfl : px = bx := hq.symm
       clear hq
       have hq2 : ¬ b_y = py := fun h => heq (by rw [h])
       have hj3 : Hid ((os ++ [((px, py), (px, b_y))]) ++ ringA (fx, fy) (l.drop (j + 1)) = R) := hidP (by rw [if_neg heq] at hj2; exact hj2)
       clear hj2 heq
       refine wp_region_plan (R := Ext) (.q 0 (.q 1 (.q 2 (.q 3 (.q 4 (.q 5 .done)))))) (by kernel_rfl) (by kernel_rfl) (by kernel_rfl) (by kernel_rfl) Ext.refl (fun _ _ _ => Ext.trans) ?_
       refine absE (fun x22 hx22 => ?_)
       have hx : Ext x21 x22 := by rw [hx22]; exact (Ext.refl _).drew
       replace hown := own_ext hown hx
       replace fv := q1f hx fv bv
       replace bv := q1b hx bv
       replace z0 := hx.cell' z0
       replace z1 := hx.cell' z1
       replace y0 := hx.cell' y0
       replace y1 := hx.cell' y1
       replace HE := HE.trans hx
       clear hx
       clear hx22
       repeat (refine wpE_q (v := ?_) rfl rfl (fun u hu => ?_) ?_; rotate_left 1; (focus (have kv := q1b hu bv; have kz0 := hu.cell' z0; have kz1 := hu.cell' z1; have ky0 := hu.cell' y0; have ky1 := hu.cell' y1; go_simp; (try rfl))); simp only [PU])
       refine wpE_done ?_
       go_wp2_with fail
       refine wp_region_plan (R := fun u v => Below w.heap.size u v ∧ But u v r0) (.q 0 (.q 1 (.q 2 (.q 3 (.q 4 (.q 5 (.q 6 (.l 7 (.l 8 (.q 9 .done)))))))))) (by kernel_rfl) (by kernel_rfl) (by kernel_rfl) (by kernel_rfl) (fun u => ⟨Below.refl _ u, But.refl u _⟩) (fun _ _ _ h1 h2 => ⟨Below.trans h1.1 h2.1, But.trans h1.2 h2.2⟩) ?_
       refine absE (fun x23 hx23 => ?_)
       have hx : Ext x22 x23 := by rw [hx23]; exact (Ext.refl _).drew
       replace hown := own_ext hown hx
       replace fv := q1f hx fv bv
       replace bv := q1b hx bv
       replace z0 := hx.cell' z0
       replace z1 := hx.cell' z1
       replace y0 := hx.cell' y0
       replace y1 := hx.cell' y1
       replace HE := HE.trans hx
       clear hx
       clear hx23
       have hB : w.heap.size ≤ x23.heap.size := HE.size
       have hgB : g < w.heap.size := hg0
       repeat (refine wpE_q (v := ?_) rfl rfl (fun u hu => ?_) ?_; rotate_left 1; (focus (have kv := But.bl hu.2 bv (Nat.succ_pos _) hvr; have k0 := low_cell hu.1 z0 hgB; have k1 := low_cell hu.1 z1 hgB; go_simp; (try rfl))); simp only [PU])
       refine wpE_l rfl rfl (fun K hK => ?_)
       go_simp
       refine hK.out _ _ ⟨(Below.refl _ _).alloc hB _, ext_but ((Ext.refl _).alloc _)⟩ ?_
       clear hK K
       try simp only [PU]
       refine wpE_l rfl rfl (fun K hK => ?_)
       refine wp_appR (r0 := r0) (ad := ⟨x23.heap.size, 0, none⟩) (m := 1) T_seg _ _ rfl (hown.alloc _) hr0 (Nat.le_trans hB (by simp)) [.int .i64 px, .int .i64 py, .int .i64 px, .int .i64 b_y] rfl rfl rfl cell_new (ends_seg _ _ _ _) (by omega) (by omega) ?_
       intro v2 w2 hown2 hlow0 hbut0
       refine hK.out _ _ ⟨hlow0, hbut0⟩ ?_
       clear hK K
       try simp only [PU]
       replace HE := Below.trans HE (Below.trans ((Below.refl _ _).alloc hB _) hlow0)
       repeat (refine wpE_q (v := ?_) rfl rfl (fun u hu => ?_) ?_; rotate_left 1; (focus (go_simp; (try rfl))); simp only [PU])
       refine wpE_done ?_
       go_wp2_with fail
       go_roundw
       case rel => exact ⟨j + 1, os ++ [((px, py), (px, b_y))], by omega, by go_num, by rw [List.length_append]; simp; omega, by rw [sgs_append, List.length_append]; exact hown2, hj3, HE⟩
       case measure => simp only [intOf]; omega
     have hj3 : Hid ((os ++ [((px, py), (bx, b_y))]) ++ ringA (fx, fy) (l.drop (j + 1)) = R) := hidP (by rw [if_neg heq] at hj2; exact hj2)
     clear hj2 heq
     refine wp_region_plan (R := Ext) (.q 0 (.q 1 (.q 2 (.q 3 (.q 4 (.q 5 .done)))))) (by kernel_rfl) (by kernel_rfl) (by kernel_rfl) (by kernel_rfl) Ext.refl (fun _ _ _ => Ext.trans) ?_
     refine absE (fun x22 hx22 => ?_)
     have hx : Ext x21 x22 := by rw [hx22]; exact (Ext.refl _).drew
     replace hown := own_ext hown hx
     replace fv := q1f hx fv bv
     replace bv := q1b hx bv
     replace z0 := hx.cell' z0
     replace z1 := hx.cell' z1
     replace y0 := hx.cell' y0
     replace y1 := hx.cell' y1
     replace HE := HE.trans hx
     clear hx
     clear hx22
     repeat (refine wpE_q (v := ?_) rfl rfl (fun u hu => ?_) ?_; rotate_left 1; (focus (have kv := q1b hu bv; have kz0 := hu.cell' z0; have kz1 := hu.cell' z1; have ky0 := hu.cell' y0; have ky1 := hu.cell' y1; go_simp; (try rfl))); simp only [PU])
     refine wpE_done ?_
     go_wp2_with fail
     refine wp_region_plan (R := fun u v => Below w.heap.size u v ∧ But u v r0) (.q 0 (.q 1 (.q 2 (.q 3 (.q 4 (.q 5 (.q 6 (.l 7 (.l 8 (.q 9 .done)))))))))) (by kernel_rfl) (by kernel_rfl) (by kernel_rfl) (by kernel_rfl) (fun u => ⟨Below.refl _ u, But.refl u _⟩) (fun _ _ _ h1 h2 => ⟨Below.trans h1.1 h2.1, But.trans h1.2 h2.2⟩) ?_
     refine absE (fun x23 hx23 => ?_)
     have hx : Ext x22 x23 := by rw [hx23]; exact (Ext.refl _).drew
     replace hown := own_ext hown hx
     replace fv := q1f hx fv bv
     replace bv := q1b hx bv
     replace z0 := hx.cell' z0
     replace z1 := hx.cell' z1
     replace y0 := hx.cell' y0
     replace y1 := hx.cell' y1
     replace HE := HE.trans hx
     clear hx
     clear hx23
     have hB : w.heap.size ≤ x23.heap.size := HE.size
     have hgB : g < w.heap.size := hg0
     repeat (refine wpE_q (v := ?_) rfl rfl (fun u hu => ?_) ?_; rotate_left 1; (focus (have kv := But.bl hu.2 bv (Nat.succ_pos _) hvr; have k0 := low_cell hu.1 z0 hgB; have k1 := low_cell hu.1 z1 hgB; go_simp; (try rfl))); simp only [PU])
     refine wpE_l rfl rfl (fun K hK => ?_)
     go_simp
     refine hK.out _ _ ⟨(Below.refl _ _).alloc hB _, ext_but ((Ext.refl _).alloc _)⟩ ?_
     clear hK K
     try simp only [PU]
     refine wpE_l rfl rfl (fun K hK => ?_)
     refine wp_appR (r0 := r0) (ad := ⟨x23.heap.size, 0, none⟩) (m := 1) T_seg _ _ rfl (hown.alloc _) hr0 (Nat.le_trans hB (by simp)) [.int .i64 px, .int .i64 py, .int .i64 bx, .int .i64 b_y] rfl rfl rfl cell_new (ends_seg _ _ _ _) (by omega) (by omega) ?_
     intro v2 w2 hown2 hlow0 hbut0
     refine hK.out _ _ ⟨hlow0, hbut0⟩ ?_
     clear hK K
     try simp only [PU]
     replace HE := Below.trans HE (Below.trans ((Below.refl _ _).alloc hB _) hlow0)
     repeat (refine wpE_q (v := ?_) rfl rfl (fun u hu => ?_) ?_; rotate_left 1; (focus (go_simp; (try rfl))); simp only [PU])
     refine wpE_done ?_
     go_wp2_with fail
     go_roundw
     case rel => exact ⟨j + 1, os ++ [((px, py), (bx, b_y))], by omega, by go_num, by rw [List.length_append]; simp; omega, by rw [sgs_append, List.length_append]; exact hown2, hj3, HE⟩
     case measure => simp only [intOf]; omega
   have hj1 : ¬ (j + 1 < l.length) := by rw [HLN.out]; exact hl2
   rw [dif_neg hj1] at hj2
   clear hc
   generalize l[j] = pp at *
   obtain ⟨px, py⟩ := pp
   obtain ⟨fx, fy⟩ := f
   simp only [] at f0 f1 z0 z1
   go_upto_region 6 with fail
   refine absW (fun x1 hx1 => ?_)
   have hx : Ext wr x1 := by rw [hx1]; exact (Ext.refl _).alloc _
   have bv : Bl x1 wr.heap.size #[.int .i64 fx, .int .i64 fy] := by rw [hx1]; exact Bl.new (by simp)
   have fv : Fz x1 wr.heap.size := by rw [hx1]; exact Fz.new (by simp)
   replace hown := own_ext hown hx
   replace z0 := hx.cell' z0
   replace z1 := hx.cell' z1
   replace HE := HE.trans hx
   clear hx
   clear hx1 f0 f1
   go_wp2_with fail
   by_cases heq : ((fx, fy) : Int × Int) = (px, py)
   · have hj3 : Hid (os ++ ringA (fx, fy) (l.drop (j + 1)) = R) := hidP (by rw [if_pos heq, List.append_nil] at hj2; exact hj2)
     simp only [Prod.mk.injEq] at heq
     obtain ⟨rfl, rfl⟩ := heq
     clear hj2
     refine wp_region_plan (R := Ext) (.q 0 (.q 1 (.q 2 (.q 3 (.q 4 (.q 5 .done)))))) (by kernel_rfl) (by kernel_rfl) (by kernel_rfl) (by kernel_rfl) Ext.refl (fun _ _ _ => Ext.trans) ?_
     refine absE (fun x21 hx21 => ?_)
     have hx : Ext x1 x21 := by rw [hx21]; exact (Ext.refl _).drew
     replace hown := own_ext hown hx
     replace fv := q1f hx fv bv
     replace bv := q1b hx bv
     replace z0 := hx.cell' z0
     replace z1 := hx.cell' z1
     replace HE := HE.trans hx
     clear hx
     clear hx21
     repeat (refine wpE_q (v := ?_) rfl rfl (fun u hu => ?_) ?_; rotate_left 1; (focus (have kv := q1b hu bv; have kz0 := hu.cell' z0; have kz1 := hu.cell' z1; go_simp; (try rfl))); simp only [PU])
     refine wpE_done ?_
     go_wp2_with fail
     go_roundw
     case rel => exact ⟨j + 1, os, by omega, by go_num, by omega, hown, hj3, HE⟩
     case measure => simp only [intOf]; omega
   by_cases hq : fx = px
   · obtain rfl : px = fx := hq.symm
     clear hq
     have hq2 : ¬ fy = py := fun h => heq (by rw [h])
     have hj3 : Hid ((os ++ [((px, py), (px, fy))]) ++ ringA (px, fy) (l.drop (j + 1)) = R) := hidP (by rw [if_neg heq] at hj2; exact hj2)
     clear hj2 heq
     refine wp_region_plan (R := Ext) (.q 0 (.q 1 (.q 2 (.q 3 (.q 4 (.q 5 .done)))))) (by kernel_rfl) (by kernel_rfl) (by kernel_rfl) (by kernel_rfl) Ext.refl (fun _ _ _ => Ext.trans) ?_
     refine absE (fun x21 hx21 => ?_)
     have hx : Ext x1 x21 := by rw [hx21]; exact (Ext.refl _).drew
     replace hown := own_ext hown hx
     replace fv := q1f hx fv bv
     replace bv := q1b hx bv
     replace z0 := hx.cell' z0
     replace z1 := hx.cell' z1
     replace HE := HE.trans hx
     clear hx
     clear hx21
     repeat (refine wpE_q (v := ?_) rfl rfl (fun u hu => ?_) ?_; rotate_left 1; (focus (have kv := q1b hu bv; have kz0 := hu.cell' z0; have kz1 := hu.cell' z1; go_simp; (try rfl))); simp only [PU])
     refine wpE_done ?_
     go_wp2_with fail
     refine wp_region_plan (R := fun u v => Below w.heap.size u v ∧ But u v r0) (.q 0 (.q 1 (.q 2 (.q 3 (.q 4 (.q 5 (.q 6 (.l 7 (.l 8 (.q 9 .done)))))))))) (by kernel_rfl) (by kernel_rfl) (by kernel_rfl) (by kernel_rfl) (fun u => ⟨Below.refl _ u, But.refl u _⟩) (fun _ _ _ h1 h2 => ⟨Below.trans h1.1 h2.1, But.trans h1.2 h2.2⟩) ?_
     refine absE (fun x22 hx22 => ?_)
     have hx : Ext x21 x22 := by rw [hx22]; exact (Ext.refl _).drew
     replace hown := own_ext hown hx
     replace fv := q1f hx fv bv
     replace bv := q1b hx bv
     replace z0 := hx.cell' z0
     replace z1 := hx.cell' z1
     replace HE := HE.trans hx
     clear hx
     clear hx22
     have hB : w.heap.size ≤ x22.heap.size := HE.size
     have hgB : g < w.heap.size := hg0
     repeat (refine wpE_q (v := ?_) rfl rfl (fun u hu => ?_) ?_; rotate_left 1; (focus (have kv := But.bl hu.2 bv (Nat.succ_pos _) hvr; have k0 := low_cell hu.1 z0 hgB; have k1 := low_cell hu.1 z1 hgB; go_simp; (try rfl))); simp only [PU])
     refine wpE_l rfl rfl (fun K hK => ?_)
     go_simp
     refine hK.out _ _ ⟨(Below.refl _ _).alloc hB _, ext_but ((Ext.refl _).alloc _)⟩ ?_
     clear hK K
     try simp only [PU]
     refine wpE_l rfl rfl (fun K hK => ?_)
     refine wp_appR (r0 := r0) (ad := ⟨x22.heap.size, 0, none⟩) (m := 1) T_seg _ _ rfl (hown.alloc _) hr0 (Nat.le_trans hB (by simp)) [.int .i64 px, .int .i64 py, .int .i64 px, .int .i64 fy] rfl rfl rfl cell_new (ends_seg _ _ _ _) (by omega) (by omega) ?_
     intro v2 w2 hown2 hlow0 hbut0
     refine hK.out _ _ ⟨hlow0, hbut0⟩ ?_
     clear hK K
     try simp only [PU]
     replace HE := Below.trans HE (Below.trans ((Below.refl _ _).alloc hB _) hlow0)
     repeat (refine wpE_q (v := ?_) rfl rfl (fun u hu => ?_) ?_; rotate_left 1; (focus (go_simp; (try rfl))); simp only [PU])
     refine wpE_done ?_
     go_wp2_with fail
     go_roundw
     case rel => exact ⟨j + 1, os ++ [((px, py), (px, fy))], by omega, by go_num, by rw [List.length_append]; simp; omega, by rw [sgs_append, List.length_append]; exact hown2, hj3, HE⟩
     case measure => simp only [intOf]; omega
   have hj3 : Hid ((os ++ [((px, py), (fx, fy))]) ++ ringA (fx, fy) (l.drop (j + 1)) = R) := hidP (by rw [if_neg heq] at hj2; exact hj2)
   clear hj2 heq
   refine wp_region_plan (R := Ext) (.q 0 (.q 1 (.q 2 (.q 3 (.q 4 (.q 5 .done)))))) (by kernel_rfl) (by kernel_rfl) (by kernel_rfl) (by kernel_rfl) Ext.refl (fun _ _ _ => Ext.trans) ?_
   refine absE (fun x21 hx21 => ?_)
   have hx : Ext x1 x21 := by rw [hx21]; exact (Ext.refl _).drew
   replace hown := own_ext hown hx
   replace fv := q1f hx fv bv
   replace bv := q1b hx bv
   replace z0 := hx.cell' z0
   replace z1 := hx.cell' z1
   replace HE := HE.trans hx
   clear hx
   clear hx21
   repeat (refine wpE_q (v := ?_) rfl rfl (fun u hu => ?_) ?_; rotate_left 1; (focus (have kv := q1b hu bv; have kz0 := hu.cell' z0; have kz1 := hu.cell' z1; go_simp; (try rfl))); simp only [PU])
   refine wpE_done ?_
   go_wp2_with fail
   refine wp_region_plan (R := fun u v => Below w.heap.size u v ∧ But u v r0) (.q 0 (.q 1 (.q 2 (.q 3 (.q 4 (.q 5 (.q 6 (.l 7 (.l 8 (.q 9 .done)))))))))) (by kernel_rfl) (by kernel_rfl) (by kernel_rfl) (by kernel_rfl) (fun u => ⟨Below.refl _ u, But.refl u _⟩) (fun _ _ _ h1 h2 => ⟨Below.trans h1.1 h2.1, But.trans h1.2 h2.2⟩) ?_
   refine absE (fun x22 hx22 => ?_)
   have hx : Ext x21 x22 := by rw [hx22]; exact (Ext.refl _).drew
   replace hown := own_ext hown hx
   replace fv := q1f hx fv bv
   replace bv := q1b hx bv
   replace z0 := hx.cell' z0
   replace z1 := hx.cell' z1
   replace HE := HE.trans hx
   clear hx
   clear hx22
   have hB : w.heap.size ≤ x22.heap.size := HE.size
   have hgB : g < w.heap.size := hg0
   repeat (refine wpE_q (v := ?_) rfl rfl (fun u hu => ?_) ?_; rotate_left 1; (focus (have kv := But.bl hu.2 bv (Nat.succ_pos _) hvr; have k0 := low_cell hu.1 z0 hgB; have k1 := low_cell hu.1 z1 hgB; go_simp; (try rfl))); simp only [PU])
   refine wpE_l rfl rfl (fun K hK => ?_)
   go_simp
   refine hK.out _ _ ⟨(Below.refl _ _).alloc hB _, ext_but ((Ext.refl _).alloc _)⟩ ?_
   clear hK K
   try simp only [PU]
   refine wpE_l rfl rfl (fun K hK => ?_)
   refine wp_appR (r0 := r0) (ad := ⟨x22.heap.size, 0, none⟩) (m := 1) T_seg _ _ rfl (hown.alloc _) hr0 (Nat.le_trans hB (by simp)) [.int .i64 px, .int .i64 py, .int .i64 fx, .int .i64 fy] rfl rfl rfl cell_new (ends_seg _ _ _ _) (by omega) (by omega) ?_
   intro v2 w2 hown2 hlow0 hbut0
   refine hK.out _ _ ⟨hlow0, hbut0⟩ ?_
   clear hK K
   try simp only [PU]
   replace HE := Below.trans HE (Below.trans ((Below.refl _ _).alloc hB _) hlow0)
   repeat (refine wpE_q (v := ?_) rfl rfl (fun u hu => ?_) ?_; rotate_left 1; (focus (go_simp; (try rfl))); simp only [PU])
   refine wpE_done ?_
   go_wp2_with fail
   go_roundw
   case rel => exact ⟨j + 1, os ++ [((px, py), (fx, fy))], by omega, by go_num, by rw [List.length_append]; simp; omega, by rw [sgs_append, List.length_append]; exact hown2, hj3, HE⟩
   case measure => simp only [intOf]; omega
 obtain rfl : j = sn := by omega
 have hr : os = R := by have := HJ.out; rwa [List.drop_of_length_le (by rw [HLN.out]; omega), ringA, List.append_nil] at this
 subst hr
 clear HJ
 obtain ⟨a2, c2, rfl, hs2⟩ := SlK.of_owns hown
 go_wp2_with fail
 go_ret
 exact ⟨_, _, _, rfl, hs2, HE⟩
end Go.Proofs.YtgjjalnmigdjgaaGreat
