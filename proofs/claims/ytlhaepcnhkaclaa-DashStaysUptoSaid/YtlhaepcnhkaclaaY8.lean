/- Dashes: the program's pieces; ahead of its walk. -/
import Derived.Test.YtlhaepcnhkaclaaY7
namespace Go.Proofs.Ytlhaepcnhkaclaa
set_option linter.unusedVariables false
set_option linter.unusedSimpArgs false
open Go Go.RowKit Go.Shelf
attribute [local go_sem] Oper.semAt_some

theorem run_store_fn {P : Program} {w : World} {a : Addr} {m : Mode} (f : Fn) (x y : Array Value) : (store a (.func f x y) m).run P w = stored P w a (.func f x y) m := run_store P w a _ m rfl
attribute [local go_sem] run_store_fn
theorem Box1.new1 {W : World} {o : Obj} {t : TypeId} {v : Value} : Box1 ((W.alloc o).alloc (.cells #[v] t)) (W.heap.size + 1) t v := by
  have := Box1.new (W := W.alloc o) (t := t) (v := v)
  rwa [World.size_alloc] at this
theorem Box1.new2 {W : World} {o p : Obj} {t : TypeId} {v : Value} : Box1 (((W.alloc o).alloc p).alloc (.cells #[v] t)) (W.heap.size + 1 + 1) t v := by
  have := Box1.new1 (W := W.alloc o) (o := p) (t := t) (v := v)
  rwa [World.size_alloc] at this
theorem Box1.new3 {W : World} {o p q : Obj} {t : TypeId} {v : Value} : Box1 ((((W.alloc o).alloc p).alloc q).alloc (.cells #[v] t)) (W.heap.size + 1 + 1 + 1) t v := by
  have := Box1.new2 (W := W.alloc o) (o := p) (p := q) (t := t) (v := v)
  rwa [World.size_alloc] at this
theorem ext_al {w u : World} (h : Ext w u) (o : Obj) : Ext w (u.alloc o) := h.alloc o

theorem own_set {x : World} {B e K n k : Nat} {v : Value} {xs : List Value} (h : x.ownsRow B e K v n xs) (hk : k < B) (u : Value) : (x.setCell ⟨k, 0, none⟩ u).ownsRow B e K v n xs :=
  own_but (k := k) h (But.store (But.refl x k)) (fun r e => by have := (h.lt r e).1; omega)

/-- The boxes that the lengths of a pattern are gone through by. -/
def SpanB (w w' : World) (sl : Value) (ph : Int) : Prop :=
  Box1 w' w.heap.size 25 sl ∧ Box1 w' (w.heap.size + 1) 3 (.int .i64 ph) ∧ Box1 w' (w.heap.size + 1 + 1) 3 (.int .i64 0) ∧
  Box1 w' (w.heap.size + 1 + 1 + 1) 109 (.func (.func 55) #[] #[.pointer (some ⟨w.heap.size, 0, none⟩), .pointer (some ⟨w.heap.size + 1 + 1, 0, none⟩)]) ∧ Ext w w'
set_option maxRecDepth 100000 in
set_option maxHeartbeats 4000000 in
theorem dd_spans (a : Option Addr) (n c : Nat) (ph : Int) (w : World) (F : Fence) (m : Nat) (h5 : F.fn 28) (hro : F.round = none) :
    CallsIn F m Try.prog 28 #[.slice a n c, .int .i64 ph] w fun e w' => e = .returned (.func (.func 56) #[] #[.pointer (some ⟨w.heap.size + 1, 0, none⟩), .pointer (some ⟨w.heap.size, 0, none⟩), .pointer (some ⟨w.heap.size + 1 + 1 + 1, 0, none⟩), .pointer (some ⟨w.heap.size + 1 + 1, 0, none⟩)]) ∧ SpanB w w' (.slice a n c) ph := by
  have hmf : ∀ (fn : Fn) (first cap : Array Value) (w : World), (Instr.makeFunc fn first cap).run Try.prog w = .ok (.func fn first cap) w := fun _ _ _ _ => rfl
  refine callsIn_of_wp Try.func28 rfl h5 ?_ hro
  simp only [Try.ntmps28, List.size_toArray, List.length_cons, List.length_nil, Nat.reduceAdd, Nat.reduceSub, Array.replicate_succ, Array.replicate_zero, List.push_toArray, List.append_toArray, List.nil_append, List.cons_append]
  gi_wp2
  go_ret
  refine ⟨rfl, ?_, ?_, ?_, ?_, ?_⟩
  · exact ((Box1.new.ext (ext_al (Ext.refl _) _)).ext (ext_al (Ext.refl _) _)).ext (ext_al (Ext.refl _) _)
  · exact (Box1.new1.ext (ext_al (Ext.refl _) _)).ext (ext_al (Ext.refl _) _)
  · exact Box1.new2.ext (ext_al (Ext.refl _) _)
  · exact Box1.new3
  · exact ext_al (ext_al (ext_al (ext_al (Ext.refl _) _) _) _) _

/-- A row of lines, and of open lines that are the call's own. -/
def SlLn (w : World) (a : Option Addr) (n c : Nat) (ll : List (List Pt × Bool)) : Prop := ∃ vs, SlK 2 w a n c vs ∧ ll.length = n ∧ ∀ i (hi : i < ll.length), ∃ a' n' c', vs[i * 2]? = some (.slice a' n' c') ∧ vs[i * 2 + 1]? = some (.bool ll[i].2) ∧ SlP w a' n' c' ll[i].1
def InnP (W : World) (vs : List Value) (acc : List (List Pt)) : Prop := vs.length = acc.length * 2 ∧ ∀ i (hi : i < acc.length), ∃ u, vs[i * 2]? = some u ∧ vs[i * 2 + 1]? = some (.bool false) ∧ W.ownsRow 0 36 2 u acc[i].length (pts acc[i])
theorem InnP.map {W W' : World} {vs : List Value} {acc : List (List Pt)} (h : InnP W vs acc) (hk : ∀ u n xs, W.ownsRow 0 36 2 u n xs → W'.ownsRow 0 36 2 u n xs) : InnP W' vs acc :=
  ⟨h.1, fun i hi => by obtain ⟨u, h1, h2, h3⟩ := h.2 i hi; exact ⟨u, h1, h2, hk _ _ _ h3⟩⟩
theorem InnP.snoc {W : World} {vs : List Value} {acc : List (List Pt)} (h : InnP W vs acc) {u : Value} {ws : List Pt} (hu : W.ownsRow 0 36 2 u ws.length (pts ws)) : InnP W (vs ++ [u, .bool false]) (acc ++ [ws]) := by
  refine ⟨by simp [h.1]; omega, fun i hi => ?_⟩
  by_cases hl : i < acc.length
  · obtain ⟨u', h1, h2, h3⟩ := h.2 i hl
    refine ⟨u', ?_, ?_, ?_⟩
    · rw [List.getElem?_append_left (by rw [h.1]; omega)]; exact h1
    · rw [List.getElem?_append_left (by rw [h.1]; omega)]; exact h2
    · rw [List.getElem_append_left hl]; exact h3
  · have e : i = acc.length := by simp at hi; omega
    subst e
    refine ⟨u, ?_, ?_, ?_⟩
    · rw [← h.1, List.getElem?_append_right (Nat.le_refl _)]; simp
    · rw [← h.1, List.getElem?_append_right (by omega)]; simp
    · rw [List.getElem_append_right (Nat.le_refl _)]; simpa using hu
theorem InnP.ln {W : World} {vs : List Value} {acc : List (List Pt)} (h : InnP W vs acc) {a : Option Addr} {n c : Nat} (hs : SlK 2 W a n c vs) : SlLn W a n c (acc.map fun x => (x, false)) :=
  ⟨vs, hs, by have h1 := h.1; have h2 := hs.1; simp; omega, fun i hi => by
    rw [List.length_map] at hi
    obtain ⟨u, h1, h2, h3⟩ := h.2 i hi
    obtain ⟨a', c', rfl, h4⟩ := SlK.of_owns h3
    exact ⟨a', _, c', h1, by simpa using h2, by simpa [SlP] using h4⟩⟩
theorem SlLn.nil (w : World) : SlLn w none 0 0 [] := ⟨[], SlK.nil 2 w, rfl, fun i hi => absurd hi (by simp)⟩
/-- What the cut hands back. -/
def cutA (l : List Pt) (c : Bool) (pat : List Int) (ph : Int) : List (List Pt × Bool) × Nat :=
  if mayD pat ph = false then ([], 2) else if fitL l = false then ([], 4) else if pat = [] then ([(l, c)], 0) else
    ((cutF (waysF (rndL l c) 0) (longL l c) (spansF pat 2000 0 (-(ph.tmod (totD pat)))) 0 []).1.map (fun x => (x, false)), (cutF (waysF (rndL l c) 0) (longL l c) (spansF pat 2000 0 (-(ph.tmod (totD pat)))) 0 []).2)
def RetCut (w : World) (r : List (List Pt × Bool) × Nat) (e : Ending) (w' : World) : Prop := ∃ a n c, e = .returned (.tuple #[.slice a n c, .int .i64 (r.2 : Int)]) ∧ SlLn w' a n c r.1 ∧ Ext w w'
theorem results_two {P : Program} {fn : Func} {tmps : Array Value} {w : World} {p0 p1 : Tmp} {t0 t1 : TypeId} {b0 b1 : Nat} {v0 v1 : Value} (h : fn.results = #[.cell p0 t0, .cell p1 t1])
    (h0 : tmps.getD p0 undef = .pointer (some ⟨b0, 0, none⟩)) (h1 : tmps.getD p1 undef = .pointer (some ⟨b1, 0, none⟩))
    (l0 : (loadVar t0 ⟨b0, 0, none⟩).run P w = .ok v0 w) (l1 : (loadVar t1 ⟨b1, 0, none⟩).run P w = .ok v1 w) : (results fn tmps).run P w = .ok (.tuple #[v0, v1]) w := by
  have h0' : tmps[p0]?.getD undef = .pointer (some ⟨b0, 0, none⟩) := by simpa using h0
  have h1' : tmps[p1]?.getD undef = .pointer (some ⟨b1, 0, none⟩) := by simpa using h1
  simp [results, h, h0', h1', asAddr, l0, l1]
theorem load_lns {w : World} {b : Nat} {a : Option Addr} {n c : Nat} (h : w.cell? ⟨b, 0, none⟩ = some (.slice a n c)) : (loadVar 26 ⟨b, 0, none⟩).run Try.prog w = .ok (.slice a n c) w := by go_simp
theorem T_ln : SlTK Try.prog 26 24 2 (.agg #[.slice none 0 0, .bool false]) 32 :=
  let ⟨i, h1, h2, h3, h4⟩ := info_parts (P := Try.prog) (e := 24) (z := .agg #[.slice none 0 0, .bool false]) (size := 2) (bytes := 32) (by kernel_rfl); ⟨Try.underlying26, by omega, i, h1, h2, h3, h4, rfl⟩

set_option maxRecDepth 100000 in
set_option maxHeartbeats 4000000 in
theorem dd_Cut_no (a : Option Addr) (n cap : Nat) (l : List Pt) (c : Bool) (pa : Option Addr) (pn pc : Nat) (pat : List Int) (ph : Int) (w : World) (h : SlP w a n cap l) (hp : Sl w pa pn pc (izs pat)) (hno : mayD pat ph = false) :
    Calls Try.prog 8 #[.agg #[.slice a n cap, .bool c], .slice pa pn pc, .int .i64 ph] w (RetCut w ([], 2)) := by
  have HM := hidP (fun u (q : Sl u pa pn pc (izs pat)) => dd_May pa pn pc pat ph u q)
  rw [hno] at HM
  have HP := hidP hp
  clear h hp hno
  go_enter Try.func8, Try.ntmps8
  go_wp2_with fail
  refine absC (fun x1 hx1 => ?_)
  have hx : Ext w x1 := by rw [hx1]; exact ext_al (ext_al (ext_al (Ext.refl _) _) _) _
  have bp : Bl x1 w.heap.size #[.slice a n cap, .bool c] := by rw [hx1]; exact ((Bl.new (by simp)).alloc (by simp)).alloc (by simp)
  have b6 : Box1 x1 (w.heap.size + 1) 26 (.slice none 0 0) := by rw [hx1]; exact Box1.new1.ext (ext_al (Ext.refl _) _)
  have b7 : Box1 x1 (w.heap.size + 1 + 1) 27 (.int .i64 0) := by rw [hx1]; exact Box1.new2
  have HE := hx
  clear hx hx1
  refine (HM.out _ (HP.out.ext HE)).mono ?_
  rintro e u1 ⟨rfl, hx⟩
  replace bp := Bl.ext hx bp (Nat.succ_pos _)
  replace b6 := b6.ext hx
  replace b7 := b7.ext hx
  replace HE := HE.trans hx
  clear hx
  have c6 := b6.cell; have f6 := b6.free; have c7 := b7.cell; have f7 := b7.free
  have n67 : w.heap.size + 1 ≠ w.heap.size + 1 + 1 := by omega
  go_wp2_with fail
  have z6 := (b6.set (.slice none 0 0)).grown (grownBy_setCell' _ (w.heap.size + 1 + 1) (.int .i64 2)) (some_ne n67)
  have z7 := (b7.grown (grownBy_setCell' u1 (w.heap.size + 1) (.slice none 0 0)) (some_ne n67.symm)).set (.int .i64 2)
  have HZ := (HE.store (p := ⟨w.heap.size + 1, 0, none⟩) (by show w.heap.size ≤ w.heap.size + 1; omega) (.slice none 0 0)).store (p := ⟨w.heap.size + 1 + 1, 0, none⟩) (by show w.heap.size ≤ w.heap.size + 1 + 1; omega) (.int .i64 2)
  refine bodyPost_ret (results_two rfl rfl rfl (load_lns z6.cell) (load_er z7.cell)) rfl ?_
  exact ⟨none, 0, 0, rfl, SlLn.nil _, HZ⟩
set_option maxRecDepth 100000 in
set_option maxHeartbeats 4000000 in
theorem dd_Cut_far (a : Option Addr) (n cap : Nat) (l : List Pt) (c : Bool) (pa : Option Addr) (pn pc : Nat) (pat : List Int) (ph : Int) (w : World) (h : SlP w a n cap l) (hp : Sl w pa pn pc (izs pat)) (hm : mayD pat ph = true) (hno : fitL l = false) :
    Calls Try.prog 8 #[.agg #[.slice a n cap, .bool c], .slice pa pn pc, .int .i64 ph] w (RetCut w ([], 4)) := by
  have HM := hidP (fun u (q : Sl u pa pn pc (izs pat)) => dd_May pa pn pc pat ph u q)
  have HF := hidP (fun u (q : SlP u a n cap l) => dd_fits a n cap l c u q)
  rw [hm] at HM
  rw [hno] at HF
  have HP := hidP hp; have H := hidP h
  clear h hp hno hm
  go_enter Try.func8, Try.ntmps8
  go_wp2_with fail
  refine absC (fun x1 hx1 => ?_)
  have hx : Ext w x1 := by rw [hx1]; exact ext_al (ext_al (ext_al (Ext.refl _) _) _) _
  have bp : Bl x1 w.heap.size #[.slice a n cap, .bool c] := by rw [hx1]; exact ((Bl.new (by simp)).alloc (by simp)).alloc (by simp)
  have b6 : Box1 x1 (w.heap.size + 1) 26 (.slice none 0 0) := by rw [hx1]; exact Box1.new1.ext (ext_al (Ext.refl _) _)
  have b7 : Box1 x1 (w.heap.size + 1 + 1) 27 (.int .i64 0) := by rw [hx1]; exact Box1.new2
  have HE := hx
  clear hx hx1
  refine (HM.out _ (HP.out.ext HE)).mono ?_
  rintro e u1 ⟨rfl, hx⟩
  replace bp := Bl.ext hx bp (Nat.succ_pos _)
  replace b6 := b6.ext hx
  replace b7 := b7.ext hx
  replace HE := HE.trans hx
  clear hx
  go_wp2_with fail
  refine (HF.out _ (H.out.ext HE)).mono ?_
  rintro e u2 ⟨rfl, hx⟩
  replace bp := Bl.ext hx bp (Nat.succ_pos _)
  replace b6 := b6.ext hx
  replace b7 := b7.ext hx
  replace HE := HE.trans hx
  clear hx
  have c6 := b6.cell; have f6 := b6.free; have c7 := b7.cell; have f7 := b7.free
  have n67 : w.heap.size + 1 ≠ w.heap.size + 1 + 1 := by omega
  go_wp2_with fail
  have z6 := (b6.set (.slice none 0 0)).grown (grownBy_setCell' _ (w.heap.size + 1 + 1) (.int .i64 4)) (some_ne n67)
  have z7 := (b7.grown (grownBy_setCell' u2 (w.heap.size + 1) (.slice none 0 0)) (some_ne n67.symm)).set (.int .i64 4)
  have HZ := (HE.store (p := ⟨w.heap.size + 1, 0, none⟩) (by show w.heap.size ≤ w.heap.size + 1; omega) (.slice none 0 0)).store (p := ⟨w.heap.size + 1 + 1, 0, none⟩) (by show w.heap.size ≤ w.heap.size + 1 + 1; omega) (.int .i64 4)
  refine bodyPost_ret (results_two rfl rfl rfl (load_lns z6.cell) (load_er z7.cell)) rfl ?_
  exact ⟨none, 0, 0, rfl, SlLn.nil _, HZ⟩
set_option maxRecDepth 100000 in
set_option maxHeartbeats 4000000 in
theorem dd_Cut_all (a : Option Addr) (n cap : Nat) (l : List Pt) (c : Bool) (pa : Option Addr) (pn pc : Nat) (pat : List Int) (ph : Int) (w : World) (h : SlP w a n cap l) (hp : Sl w pa pn pc (izs pat)) (hm : mayD pat ph = true) (hf : fitL l = true) (h0 : pat = []) (hn : n ≤ 4194304) :
    Calls Try.prog 8 #[.agg #[.slice a n cap, .bool c], .slice pa pn pc, .int .i64 ph] w (RetCut w ([(l, c)], 0)) := by
  have HM := hidP (fun u (q : Sl u pa pn pc (izs pat)) => dd_May pa pn pc pat ph u q)
  have HF := hidP (fun u (q : SlP u a n cap l) => dd_fits a n cap l c u q)
  rw [hm] at HM
  rw [hf] at HF
  have hpn : pn = 0 := by rw [← hp.z_len, h0]; rfl
  have HP := hidP hp; have H := hidP h
  clear h hp hf hm h0
  subst hpn
  go_enter Try.func8, Try.ntmps8
  go_wp2_with fail
  refine absC (fun x1 hx1 => ?_)
  have hx : Ext w x1 := by rw [hx1]; exact ext_al (ext_al (ext_al (Ext.refl _) _) _) _
  have bp : Bl x1 w.heap.size #[.slice a n cap, .bool c] := by rw [hx1]; exact ((Bl.new (by simp)).alloc (by simp)).alloc (by simp)
  have b6 : Box1 x1 (w.heap.size + 1) 26 (.slice none 0 0) := by rw [hx1]; exact Box1.new1.ext (ext_al (Ext.refl _) _)
  have b7 : Box1 x1 (w.heap.size + 1 + 1) 27 (.int .i64 0) := by rw [hx1]; exact Box1.new2
  have HE := hx
  clear hx hx1
  refine (HM.out _ (HP.out.ext HE)).mono ?_
  rintro e u1 ⟨rfl, hx⟩
  replace bp := Bl.ext hx bp (Nat.succ_pos _)
  replace b6 := b6.ext hx
  replace b7 := b7.ext hx
  replace HE := HE.trans hx
  clear hx
  go_wp2_with fail
  refine (HF.out _ (H.out.ext HE)).mono ?_
  rintro e u2 ⟨rfl, hx⟩
  replace bp := Bl.ext hx bp (Nat.succ_pos _)
  replace b6 := b6.ext hx
  replace b7 := b7.ext hx
  replace HE := HE.trans hx
  clear hx
  go_upto_region 6 with fail
  refine wp_region_plan (R := Below (w.heap.size + 1 + 1 + 1)) (.q 0 (.q 1 (.q 3 (.q 4 (.l 2 (.q 5 (.l 6 (.b 7 (.b 8 .done))))))))) (by kernel_rfl) (by kernel_rfl) (by kernel_rfl) (by kernel_rfl) (Below.refl _) (fun _ _ _ => Below.trans) ?_
  have l7 := b7.lt
  refine absE (fun x3 hx3 => ?_)
  have hx : Ext u2 x3 := by rw [hx3]; exact (Ext.refl _).drew
  have hlo : w.heap.size + 1 + 1 + 1 ≤ x3.heap.size := Nat.le_trans l7 hx.size
  replace bp := Bl.ext hx bp (Nat.succ_pos _)
  replace b6 := b6.ext hx
  replace b7 := b7.ext hx
  replace HE := HE.trans hx
  clear hx hx3
  repeat (refine wpE_q (v := ?_) rfl rfl (fun u hu => ?_) ?_; rotate_left 1; (focus (have kp := Bl.lowB hu bp (by omega); go_simp; (try rfl))); simp only [Act.put, List.setIfInBounds_toArray, List.set_cons_zero, List.set_cons_succ])
  refine wpE_l rfl rfl (fun K hK => ?_)
  refine wp_appAll T_pt _ _ rfl hlo rfl rfl (H.out.ext HE) (pts_one1 l) (by omega) (by omega) ?_
  intro v2 w2 hown2 hlow
  refine hK.out _ _ hlow ?_
  clear hK K
  obtain ⟨a2, c2, rfl, hs2⟩ := SlK.of_owns hown2
  replace bp := Bl.lowB hlow bp (by omega)
  replace b6 : Box1 w2 (w.heap.size + 1) 26 (.slice none 0 0) := (hlow.block _ (by omega)).trans b6
  replace b7 : Box1 w2 (w.heap.size + 1 + 1) 27 (.int .i64 0) := (hlow.block _ (by omega)).trans b7
  replace HE : Ext w w2 := Below.trans HE (Below.mono hlow (by omega))
  replace hlo := Nat.le_trans hlo hlow.size
  try simp only [Act.put, List.setIfInBounds_toArray, List.set_cons_zero, List.set_cons_succ]
  repeat (refine wpE_q (v := ?_) rfl rfl (fun u hu => ?_) ?_; rotate_left 1; (focus (have kp := Bl.lowB hu bp (by omega); go_simp; (try rfl))); simp only [Act.put, List.setIfInBounds_toArray, List.set_cons_zero, List.set_cons_succ])
  refine wpE_l rfl rfl (fun K hK => ?_)
  go_simp
  refine hK.out _ _ ((Below.refl _ _).alloc hlo _) ?_
  clear hK K
  try simp only [Act.put, List.setIfInBounds_toArray, List.set_cons_zero, List.set_cons_succ]
  refine absE (fun x4 hx4 => ?_)
  have hx : Ext w2 x4 := by rw [hx4]; exact ext_al (Ext.refl _) _
  have ho4 : x4.ownsRow (w.heap.size + 1 + 1 + 1) 24 2 (.slice (some ⟨w2.heap.size, 0, none⟩) 1 1) 1 [.slice a2 n c2, .bool c] := by
    rw [hx4]
    exact own_one w2 _ _ 2 #[.slice a2 n c2, .bool c] rfl hlo
  have hp4 := own_ext hown2 hx
  replace b6 := b6.ext hx
  replace b7 := b7.ext hx
  replace HE := HE.trans hx
  clear hx hx4 hown2 hs2 bp hlo hlow
  generalize w2.heap.size = gl at *
  have c6 := b6.cell; have f6 := b6.free; have c7 := b7.cell; have f7 := b7.free
  have n67 : w.heap.size + 1 ≠ w.heap.size + 1 + 1 := by omega
  refine wpE_b rfl rfl (fun K hK => ?_)
  go_simp
  refine hK.out _ _ ?_
  clear hK K
  try simp only [Act.put, List.setIfInBounds_toArray, List.set_cons_zero, List.set_cons_succ]
  refine wpE_b rfl rfl (fun K hK => ?_)
  go_simp
  refine hK.out _ _ ?_
  clear hK K
  try simp only [Act.put, List.setIfInBounds_toArray, List.set_cons_zero, List.set_cons_succ]
  have z6 := (b6.set (.slice (some ⟨gl, 0, none⟩) 1 1)).grown (grownBy_setCell' _ (w.heap.size + 1 + 1) (.int .i64 0)) (some_ne n67)
  have z7 := (b7.grown (grownBy_setCell' x4 (w.heap.size + 1) (.slice (some ⟨gl, 0, none⟩) 1 1)) (some_ne n67.symm)).set (.int .i64 0)
  have HZ := (HE.store (p := ⟨w.heap.size + 1, 0, none⟩) (by show w.heap.size ≤ w.heap.size + 1; omega) (.slice (some ⟨gl, 0, none⟩) 1 1)).store (p := ⟨w.heap.size + 1 + 1, 0, none⟩) (by show w.heap.size ≤ w.heap.size + 1 + 1; omega) (.int .i64 0)
  have ho5 := own_set (own_set ho4 (k := w.heap.size + 1) (by omega) (.slice (some ⟨gl, 0, none⟩) 1 1)) (k := w.heap.size + 1 + 1) (by omega) (.int .i64 0)
  have hp5 := own_set (own_set hp4 (k := w.heap.size + 1) (by omega) (.slice (some ⟨gl, 0, none⟩) 1 1)) (k := w.heap.size + 1 + 1) (by omega) (.int .i64 0)
  refine wpE_done ?_
  go_wp2_with fail
  refine bodyPost_ret (results_two rfl rfl rfl (load_lns z6.cell) (load_er z7.cell)) rfl ?_
  exact ⟨_, 1, 1, rfl, ⟨_, SlK.of_owns' ho5, rfl, fun i hi => by
    obtain rfl : i = 0 := by simp at hi; omega
    exact ⟨a2, n, c2, rfl, rfl, SlK.of_owns' hp5⟩⟩, HZ⟩

end Go.Proofs.Ytlhaepcnhkaclaa
