/- A text's lines: the program's, walked. -/
import Derived.Test.YtlhaepcnhkaclaaDoorX6
namespace Go.Proofs.YtlhaepcnhkaclaaDoor
set_option linter.unusedVariables false
set_option linter.unusedSimpArgs false
open Go Go.RowKit Go.Shelf
attribute [local go_sem] Oper.semAt_some

theorem absCI {F : Fence} {n : Nat} {P : Program} {f : FuncId} {args : Array Value} {w : World} {R : Ending → World → Prop} (h : ∀ u, u = w → CallsIn F n P f args u R) : CallsIn F n P f args w R := h w rfl
/-- What holds between two rounds. -/
def LnI (w : World) (B r1 r2 r3 r4 : Nat) (All : List (List Nat × Bool)) (pre : List LineAt) (W : World) : Prop :=
  ∃ (v : Value) (vs : List Value) (acc : List (List (List Nat))),
    (Box1 W r3 23 v ∧ W.ownsRow B 53 1 v acc.length vs ∧ InnR W vs acc ∧ acc.length ≤ 1000 ∧ linesF All [] = linesF (All.drop pre.length) acc) ∧
    (Box1 W B 23 (.slice none 0 0) ∧ Box1 W r1 3 (.int .i64 0) ∧ Box1 W r2 24 (.int .i64 0)) ∧ (∃ cs fz, W.heap[r4]? = some (.cells cs 22 fz)) ∧ Ext w W
/-- A round has left the function: what is handed back. -/
def LnX (w : World) (B r1 r2 : Nat) (All : List (List Nat × Bool)) (c : Code) (W : World) : Prop :=
  ∃ k er : Nat, c = .ret ∧ linesF All [] = ([], k, er) ∧ (Box1 W B 23 (.slice none 0 0) ∧ Box1 W r1 3 (.int .i64 (k : Int)) ∧ Box1 W r2 24 (.int .i64 (er : Int))) ∧ Ext w W
theorem Ext.book {w W W' : World} {row : Option Nat} (h : Ext w W) (hg : W.grownBy W' row) (hr : ∀ r, row = some r → w.heap.size ≤ r) : Ext w W' := Below.grown h hg h.size hr
theorem LnI.own {w : World} {B r1 r2 r3 r4 : Nat} {All : List (List Nat × Bool)} {N : Nat} (hN : w.heap.size ≤ N) : OwnFrom N (LnI w B r1 r2 r3 r4 All) := by
  rintro s W W' row ⟨v, vs, acc, ⟨h1, h2, h3, h4, h5⟩, ⟨h6, h7, h8⟩, ⟨cs, fz, h9⟩, h10⟩ hg hr
  have hr' : ∀ r, row = some r → ∃ o : Obj, W.heap[r]? = some o ∧ o.isCells = false := fun r e => (hr r e).2
  refine ⟨v, vs, acc, ⟨h1.book hg hr', owns_book h2 hg hr', h3.book hg hr', h4, h5⟩, ⟨h6.book hg hr', h7.book hg hr', h8.book hg hr'⟩, ⟨cs, fz, ?_⟩, h10.book hg (fun r e => Nat.le_trans hN (hr r e).1)⟩
  refine (hg.block _ (Array.getElem?_eq_some_iff.1 h9).1 ?_).trans h9
  intro he
  obtain ⟨o, ho, hc⟩ := hr' _ he.symm
  rw [h9] at ho
  cases ho
  cases hc
theorem LnX.own {w : World} {B r1 r2 : Nat} {All : List (List Nat × Bool)} {N : Nat} (hN : w.heap.size ≤ N) (c : Code) : OwnFrom N (fun (_ : List LineAt) => LnX w B r1 r2 All c) := by
  rintro s W W' row ⟨k, er, h1, h2, ⟨h6, h7, h8⟩, h10⟩ hg hr
  have hr' : ∀ r, row = some r → ∃ o : Obj, W.heap[r]? = some o ∧ o.isCells = false := fun r e => (hr r e).2
  exact ⟨k, er, h1, h2, ⟨h6.book hg hr', h7.book hg hr', h8.book hg hr'⟩, h10.book hg (fun r e => Nat.le_trans hN (hr r e).1)⟩
theorem some_ne {a b : Nat} (h : a ≠ b) : some a ≠ some b := fun e => h (Option.some.inj e)
theorem LnI.step {w : World} {B r1 r2 r3 r4 : Nat} {All : List (List Nat × Bool)} (o1 : w.heap.size ≤ r4) (o2 : B ≠ r4) (o3 : r1 ≠ r4) (o4 : r2 ≠ r4) (o5 : r3 ≠ r4) (s : List LineAt) (X Y : World) (h : LnI w B r1 r2 r3 r4 All s X) (hs : StepB r4 X Y) : LnI w B r1 r2 r3 r4 All s Y := by
  obtain ⟨v, vs, acc, ⟨h1, h2, h3, h4, h5⟩, ⟨h6, h7, h8⟩, ⟨cs, fz, h9⟩, h10⟩ := h
  obtain ⟨hg, ht⟩ := hs
  exact ⟨v, vs, acc, ⟨h1.grown hg (some_ne o5), h2.kept hg (owns_tag h2 h9 (by decide)), h3.grown hg h9 (by decide), h4, h5⟩, ⟨h6.grown hg (some_ne o2), h7.grown hg (some_ne o3), h8.grown hg (some_ne o4)⟩, ht, h10.book hg (fun r e => by cases e; omega)⟩
theorem LnX.step {w : World} {B r1 r2 r4 : Nat} {All : List (List Nat × Bool)} (o1 : w.heap.size ≤ r4) (o2 : B ≠ r4) (o3 : r1 ≠ r4) (o4 : r2 ≠ r4) (c : Code) (X Y : World) (h : LnX w B r1 r2 All c X) (hs : StepB r4 X Y) : LnX w B r1 r2 All c Y := by
  obtain ⟨k, er, h1, h2, ⟨h6, h7, h8⟩, h10⟩ := h
  obtain ⟨hg, ht⟩ := hs
  exact ⟨k, er, h1, h2, ⟨h6.grown hg (some_ne o2), h7.grown hg (some_ne o3), h8.grown hg (some_ne o4)⟩, h10.book hg (fun r e => by cases e; omega)⟩
theorem oneL_lim {n : Nat} {p : List Nat} {e : Bool} (h : (oneL n p e).1 = 0) : n ≤ 1000 := by
  unfold oneL at h
  by_cases hn : 1000 < n
  · rw [if_pos hn] at h; cases h
  · omega
theorem owns_cells {W : World} {B K n j : Nat} {e : TypeId} {v : Value} {xs : List Value} {o : Obj} (h : W.ownsRow B e K v n xs) (he : v.ownBlock = some j) (hj : W.heap[j]? = some o) : o.isCells = true := by
  rcases h.2 with ⟨rfl, _⟩ | ⟨g, cap, cur, rfl, _, hh, _⟩
  · cases he
  · simp only [Value.ownBlock, Option.some.injEq] at he
    subst he
    rw [hh] at hj
    cases hj
    rfl
theorem others_ext {W W' : World} (h : Ext W W') : KeepsOthers W W' := ⟨h.size, fun k o hk _ => (h.block k (Array.getElem?_eq_some_iff.1 hk).1).trans hk⟩

theorem results_three {P : Program} {fn : Func} {tmps : Array Value} {w : World} {p0 p1 p2 : Tmp} {t0 t1 t2 : TypeId} {b0 b1 b2 : Nat} {v0 v1 v2 : Value} (h : fn.results = #[.cell p0 t0, .cell p1 t1, .cell p2 t2])
    (h0 : tmps.getD p0 undef = .pointer (some ⟨b0, 0, none⟩)) (h1 : tmps.getD p1 undef = .pointer (some ⟨b1, 0, none⟩)) (h2 : tmps.getD p2 undef = .pointer (some ⟨b2, 0, none⟩))
    (l0 : (loadVar t0 ⟨b0, 0, none⟩).run P w = .ok v0 w) (l1 : (loadVar t1 ⟨b1, 0, none⟩).run P w = .ok v1 w) (l2 : (loadVar t2 ⟨b2, 0, none⟩).run P w = .ok v2 w) : (results fn tmps).run P w = .ok (.tuple #[v0, v1, v2]) w := by
  have h0' : tmps[p0]?.getD undef = .pointer (some ⟨b0, 0, none⟩) := by simpa using h0
  have h1' : tmps[p1]?.getD undef = .pointer (some ⟨b1, 0, none⟩) := by simpa using h1
  have h2' : tmps[p2]?.getD undef = .pointer (some ⟨b2, 0, none⟩) := by simpa using h2
  simp [results, h, h0', h1', h2', asAddr, l0, l1, l2]
theorem load_ss {w : World} {b : Nat} {a : Option Addr} {n c : Nat} (h : w.cell? ⟨b, 0, none⟩ = some (.slice a n c)) : (loadVar 23 ⟨b, 0, none⟩).run Tryd.prog w = .ok (.slice a n c) w := by go_simp
theorem load_in {w : World} {b : Nat} {x : Int} (h : w.cell? ⟨b, 0, none⟩ = some (.int .i64 x)) : (loadVar 3 ⟨b, 0, none⟩).run Tryd.prog w = .ok (.int .i64 x) w := by go_simp
theorem load_er {w : World} {b : Nat} {x : Int} (h : w.cell? ⟨b, 0, none⟩ = some (.int .i64 x)) : (loadVar 24 ⟨b, 0, none⟩).run Tryd.prog w = .ok (.int .i64 x) w := by go_simp
set_option maxRecDepth 100000 in
set_option maxHeartbeats 8000000 in
theorem x_Lines (a : Option Addr) (n c : Nat) (l : List Nat) (w : World) (h : Sl w a n c (ints .u8 l)) (hl : ∀ x ∈ l, x ≤ 255) (hn : n ≤ 9223372036854775807) :
    Calls Tryd.prog 6 #[.slice a n c] w (RetLs w (linesF (linesP l) [])) := by
  obtain ⟨g, o, ha, hgB⟩ : ∃ g o, (0 < n → a = some ⟨g, o, none⟩) ∧ (g < w.heap.size ∨ (n = 0 ∧ g = w.heap.size)) := by
    rcases Nat.eq_zero_or_pos n with h0 | h0
    · exact ⟨w.heap.size, 0, fun h => by omega, .inr ⟨h0, rfl⟩⟩
    · obtain ⟨g, o, e, hc⟩ := h.2.2.2 h0
      have hl0 := h.int_len
      have := World.block_lt_of_cell? _ _ (hc 0 _ (List.getElem?_eq_getElem (by rw [ints_len]; omega)))
      exact ⟨g, o, fun _ => e, .inl this⟩
  have H := hidP h
  have HL := hidP hl
  have HLEN := hidP h.int_len
  generalize hall : linesP l = All
  have HALL := hidP hall
  clear h hl hall
  refine (callsIn_wide (n := 8)).1 ?_
  refine callsIn_of_wp_marks Tryd.func6 rfl trivial ?_ rfl
  simp only [Tryd.ntmps6, List.size_toArray, List.length_cons, List.length_nil, Nat.reduceAdd, Nat.reduceSub, Array.replicate_succ, Array.replicate_zero, List.push_toArray, List.append_toArray, List.nil_append, List.cons_append]
  gi_wp2
  refine ⟨trivial, ?_⟩
  refine absCI (fun x1 hx1 => ?_)
  have hx : Ext w x1 := by rw [hx1]; exact ((((Ext.refl _).alloc _).alloc _).alloc _).alloc _
  have b0 : Box1 x1 w.heap.size 23 (.slice none 0 0) := by rw [hx1]; exact ((Box1.new.ext ((Ext.refl _).alloc _)).ext ((Ext.refl _).alloc _)).ext ((Ext.refl _).alloc _)
  have b1 : Box1 x1 (w.heap.size + 1) 3 (.int .i64 0) := by
    rw [hx1]
    have := Box1.new (W := w.alloc (.cells #[.slice none 0 0] 23)) (t := 3) (v := .int .i64 0)
    rw [World.size_alloc] at this
    exact (this.ext ((Ext.refl _).alloc _)).ext ((Ext.refl _).alloc _)
  have b2 : Box1 x1 (w.heap.size + 1 + 1) 24 (.int .i64 0) := by
    rw [hx1]
    have := Box1.new (W := (w.alloc (.cells #[.slice none 0 0] 23)).alloc (.cells #[.int .i64 0] 3)) (t := 24) (v := .int .i64 0)
    rw [World.size_alloc, World.size_alloc] at this
    exact this.ext ((Ext.refl _).alloc _)
  have b3 : Box1 x1 (w.heap.size + 1 + 1 + 1) 23 (.slice none 0 0) := by
    rw [hx1]
    have := Box1.new (W := ((w.alloc (.cells #[.slice none 0 0] 23)).alloc (.cells #[.int .i64 0] 3)).alloc (.cells #[.int .i64 0] 24)) (t := 23) (v := .slice none 0 0)
    rw [World.size_alloc, World.size_alloc, World.size_alloc] at this
    exact this
  have hsz : x1.heap.size = w.heap.size + 1 + 1 + 1 + 1 := by rw [hx1, World.size_alloc, World.size_alloc, World.size_alloc, World.size_alloc]
  clear hx1
  refine (x_lines a n c x1 Fence.wide 7 trivial rfl).mono ?_
  rintro e u4 ⟨rfl, hu4⟩
  have hy : Ext x1 u4 := by rw [hu4]; exact (Ext.refl _).alloc _
  have b4 : Box1 u4 x1.heap.size 22 (.slice a n c) := by rw [hu4]; exact Box1.new
  replace b0 := b0.ext hy; replace b1 := b1.ext hy; replace b2 := b2.ext hy; replace b3 := b3.ext hy
  have HE := hx.trans hy
  have l4 := b4.lt
  have q1 : w.heap.size < w.heap.size + 1 := by omega
  have q2 : w.heap.size + 1 < w.heap.size + 1 + 1 := by omega
  have q3 : w.heap.size + 1 + 1 < w.heap.size + 1 + 1 + 1 := by omega
  have q4 : w.heap.size + 1 + 1 + 1 < x1.heap.size := by omega
  generalize x1.heap.size = r4 at *
  generalize w.heap.size + 1 + 1 + 1 = r3 at *
  generalize w.heap.size + 1 + 1 = r2 at *
  generalize w.heap.size + 1 = r1 at *
  generalize hr0 : w.heap.size = r0 at *
  have hw0 : w.heap.size ≤ r0 := by omega
  have hw1 : r0 ≤ w.heap.size := by omega
  have hgB4 : g ≠ r4 := by omega
  clear hr0 hsz
  have HI0 : LnI w r0 r1 r2 r3 r4 All [] u4 := ⟨_, [], [], ⟨b3, World.ownsRow_nil _ _ _ _, ⟨rfl, fun i hi => absurd hi (by simp)⟩, by simp, rfl⟩, ⟨b0, b1, b2⟩, ⟨_, _, b4⟩, HE⟩
  have HIT := hidP (x_lines1 (8 - 1) r4 g o n c a l u4 (by omega) b4 ha (H.out.ext HE) HL.out hgB4 hn)
  have HMEM : Hid (∀ x ∈ linesA g o c (linesP l), (∃ o', x.1.1 = some ⟨g, o', none⟩) ∧ (∀ W, Ext w W → Sl W x.1.1 x.1.2.1 x.1.2.2 (ints .u8 x.2.1)) ∧ (∀ y ∈ x.2.1, y ≤ 255) ∧ g < w.heap.size) := hidP (fun x hx => by
    have hln := HLEN.out
    rcases Nat.eq_zero_or_pos n with h0 | h0
    · have : l = [] := List.length_eq_zero_iff.1 (by omega)
      rw [this, linesP_nil] at hx
      simp [linesA] at hx
    · have e := ha h0
      have hs := H.out
      rw [e] at hs
      have hm := fun W (he : Ext w W) => lineAt_mem l.length o n c l (Nat.le_refl _) (hs.ext he) HL.out x hx
      exact ⟨(hm w (Ext.refl _)).1, fun W he => (hm W he).2.1, (hm w (Ext.refl _)).2.2, by omega⟩)
  have HSND : Hid ((linesA g o c (linesP l)).map (·.2) = All) := hidP (by rw [linesA_snd]; exact HALL.out)
  generalize hLL : linesA g o c (linesP l) = L at *
  clear b0 b1 b2 b3 hy hu4 hx hLL
  gi_wp2
  refine wpIn_rangeL rfl (by omega) (gf := 27) (lb := #[.pointer (some ⟨r4, 0, none⟩)]) rfl trivial (enters_of Tryd.func27 (by kernel_rfl) rfl)
    HIT.out KeepB.trans (fun W l o o' _ h hc => KeepB.book W l o o' h hc)
    (fun X Y k o hxy hk ho hc => (hxy.1.block k (Array.getElem?_eq_some_iff.1 ho).1 (some_ne (by omega))).trans ho) (fun _ => rfl)
    (LnI w r0 r1 r2 r3 r4 All) (fun c _ => LnX w r0 r1 r2 All c) (LnI.own (by omega)) (fun c => LnX.own (by omega) c) (LnI.step (by omega) (by omega) (by omega) (by omega) (by omega)) (fun c _ X Y => LnX.step (by omega) (by omega) (by omega) (by omega) c X Y) HI0
    (fun x a' W => a' = { tmps := #[.slice a n c, undef, .pointer (some ⟨r0, 0, none⟩), .pointer (some ⟨r1, 0, none⟩), .pointer (some ⟨r2, 0, none⟩), .pointer (some ⟨r3, 0, none⟩), .slice x.1.1 x.1.2.1 x.1.2.2, .bool x.2.2, undef, undef, undef, .slice a n c, .func (.func 27) #[] #[.pointer (some ⟨r4, 0, none⟩)], .slice x.1.1 x.1.2.1 x.1.2.2, .bool x.2.2, undef, undef, undef, undef, undef, undef, undef, undef, undef, undef, undef, undef, undef, undef, undef, undef, undef, undef, undef], defers := [] }) (fun x a' s X Y row hs _ _ => hs)
    ?assign ?body ?done ?stop
  case assign =>
    rintro lp pre x suf W K hL hI hK
    unfold encL
    gi_wp2
    exact hK _ _ (KeepsFrom.refl _ _) (KeepB.refl _ _ _) hI rfl
  case body =>
    rintro lp pre x suf a' W hL hlp ⟨v, vs, acc, ⟨h1, h2, h3, h4, h5⟩, ⟨h6, h7, h8⟩, ⟨cs, fz, h9⟩, h10⟩ rfl
    have hmem := HMEM.out x (by rw [← hL]; simp)
    have hall : All = (pre ++ x :: suf).map (fun z : LineAt => z.2) := by rw [hL]; exact HSND.out.symm
    obtain ⟨⟨xa, xn, xc⟩, p, e⟩ := x
    obtain ⟨⟨o', ho'⟩, hsl, hp, hgw⟩ := hmem
    simp only [] at ho' hsl hp
    subst ho'
    have HD1 : Hid (All.drop pre.length = (p, e) :: suf.map (fun z : LineAt => z.2)) := hidP (by
      rw [hall, List.map_append, List.map_cons, List.drop_left' (by simp)])
    have HD2 : Hid (All.drop (pre ++ [(((some ⟨g, o', none⟩ : Option Addr), xn, xc), (p, e))]).length = suf.map (fun z : LineAt => z.2)) := hidP (by
      rw [hall, show pre ++ (((some ⟨g, o', none⟩ : Option Addr), xn, xc), (p, e)) :: suf = (pre ++ [(((some ⟨g, o', none⟩ : Option Addr), xn, xc), (p, e))]) ++ suf by simp, List.map_append, List.drop_left' (by simp)])
    have HF := hidP h5
    clear hall h5
    obtain ⟨av, cv, rfl, hsv⟩ := owns_slice h2
    have c3 := h1.cell
    have hno : some r3 ≠ (Value.slice av acc.length cv).ownBlock := owns_box h2 h1 (by decide)
    have hno4 : some r4 ≠ (Value.slice av acc.length cv).ownBlock := by
      rcases owns_tag h2 h9 (by decide) with e1 | e1
      · rw [e1]; simp
      · exact fun e2 => e1 e2.symm
    have hnog : some g ≠ (Value.slice av acc.length cv).ownBlock := fun e1 => by
      have := (h2.lt g e1.symm).1
      omega
    have HONE := hidP (x_one (acc.length + 1) g o' xn xc e p W (hsl W h10) hp (by omega))
    have hlim := oneL_lim (n := acc.length + 1) (p := p) (e := e)
    have HST : Hid (linesF ((p, e) :: suf.map (fun z : LineAt => z.2)) acc = if (oneL (acc.length + 1) p e).1 = 0 then linesF (suf.map (fun z : LineAt => z.2)) (acc ++ [(oneL (acc.length + 1) p e).2]) else ([], acc.length + 1, (oneL (acc.length + 1) p e).1)) := hidP rfl
    generalize oneL (acc.length + 1) p e = rr at *
    obtain ⟨er, ws⟩ := rr
    have hnl : (acc.length : Int) + 1 ≤ 9223372036854775807 := by omega
    clear hsv hsl hp
    simp only [] at hlim
    gi_wp2
    refine ⟨trivial, ?_⟩
    refine (callsIn_wide.2 HONE.out).mono ?_
    rintro e1 u1 ⟨v1, rfl, hv1, hx1⟩
    obtain ⟨a1, c1, rfl, -⟩ := owns_slice hv1
    have hk1 := others_ext hx1
    have h9' : u1.heap[r4]? = some (.cells cs 22 fz) := (hx1.block r4 (Array.getElem?_eq_some_iff.1 h9).1).trans h9
    have hgW : g < W.heap.size := Nat.lt_of_lt_of_le hgw h10.size
    have hlt4 : r4 < W.heap.size := (Array.getElem?_eq_some_iff.1 h9).1
    clear c3
    have g1 := h1.ext hx1
    have g2 := owns_ext h2 hx1
    have g3 := h3.ext hx1
    have g6 := h6.ext hx1; have g7 := h7.ext hx1; have g8 := h8.ext hx1
    have g10 := h10.trans hx1
    have c3 := g1.cell
    by_cases her : er = 0
    · subst her
      have hlim' := hlim rfl
      have HST' := hidP ((HST.out).trans (if_pos rfl))
      have hr0u : r0 ≤ u1.heap.size := by have := g6.lt; omega
      have H9 := hidP h9; have H9' := hidP h9'; have HNO := hidP hno; have HNO4 := hidP hno4; have HNOG := hidP hnog
      clear hlim HST h1 h2 h3 h6 h7 h8 h9 h9' hno hno4 hnog
      gi_wp2_with (gi_at_builtin; refine wpListIn_appS T_ss rfl _ _ rfl (g2.alloc _) (Nat.le_trans hr0u (by simp)) (.slice a1 ws.length c1) rfl rfl (cell_one_new _ _ _) rfl (by omega) (by omega) ?_; intro v' w' hown' hgr; obtain ⟨a6, c6, rfl, -⟩ := owns_slice hown'; have k1 := (g1.ext ((Ext.refl _).alloc _)).grown hgr HNO.out; have c3 := k1.cell; have f3 := k1.free)
      have hal : Ext u1 (u1.alloc (.cells #[.slice a1 ws.length c1] 53)) := (Ext.refl _).alloc _
      have hset := grownBy_setCell' w' r3 (.slice a6 (acc.length + 1) c6)
      have hown3 : some r3 ≠ (Value.slice a6 (acc.length + 1) c6).ownBlock := owns_box hown' k1 (by decide)
      have g2a := g2.alloc (.cells #[.slice a1 ws.length c1] 53)
      have kb : ∀ k o, W.heap[k]? = some o → some k ≠ (Value.slice av acc.length cv).ownBlock → k ≠ r3 → (w'.setCell ⟨r3, 0, none⟩ (.slice a6 (acc.length + 1) c6)).heap[k]? = some o := fun k o hk n1 n2 => by
        have e1 := (hx1.block k (Array.getElem?_eq_some_iff.1 hk).1).trans hk
        have e2 := old_alloc (o' := .cells #[.slice a1 ws.length c1] 53) e1
        have e3 := (hgr.block k (Array.getElem?_eq_some_iff.1 e2).1 n1).trans e2
        exact (hset.block k (Array.getElem?_eq_some_iff.1 e3).1 (some_ne n2)).trans e3
      have bx : ∀ {r : Nat} {t : TypeId} {x : Value}, Box1 u1 r t x → 53 ≠ t → r ≠ r3 → Box1 (w'.setCell ⟨r3, 0, none⟩ (.slice a6 (acc.length + 1) c6)) r t x := fun hb hne hr => ((hb.ext hal).grown hgr (owns_box g2a (hb.ext hal) hne)).grown hset (some_ne hr)
      refine ⟨(((hk1.trans (KeepsOthers.alloc _ _)).trans (KeepsOthers.of_grownBy hgr (fun j o e hj => owns_cells g2a e hj))).trans (KeepsOthers.setCell _ _ _)).from _, ⟨Nat.le_trans hk1.size (Nat.le_trans (by simp) (Nat.le_trans hgr.size hset.size)), fun k o hk ho _ => ?_⟩, ?_⟩
      · rcases hk with rfl | rfl
        · exact kb _ o ho HNO4.out (by omega)
        · exact kb _ o ho HNOG.out (by omega)
      · refine ⟨_, vs ++ [.slice a1 ws.length c1], acc ++ [ws], ⟨k1.set _, ?_, ?_, ?_, ?_⟩, ⟨bx g6 (by decide) (by omega), bx g7 (by decide) (by omega), bx g8 (by decide) (by omega)⟩, ⟨cs, fz, kb r4 _ H9.out HNO4.out (by omega)⟩, ?_⟩
        · rw [show (acc ++ [ws]).length = acc.length + 1 by simp]
          exact hown'.kept hset (.inr hown3.symm)
        · have i1 := ((g3.ext hal).row g2a hgr).grown hset k1 (by decide)
          have i2 := ((owns_ext hv1 hal).kept hgr (owns_other (owns_ext hv1 hal) g2a (by decide)))
          exact i1.snoc (i2.kept hset (owns_tag i2 k1 (by decide)))
        · rw [show (acc ++ [ws]).length = acc.length + 1 by simp]
          exact hlim'
        · rw [HF.out, HD1.out, HST'.out, HD2.out]
        · exact ((g10.trans hal).book hgr (fun r e => by have := (g2.lt r e).1; omega)).store (by show w.heap.size ≤ r3; omega) _
    · have hne1 : ((er : Int) != 0) = true := by simp; omega
      have hne2 : ((er : Int) == 0) = false := by simp; omega
      have HST' := hidP ((HST.out).trans (if_neg her))
      have c0 := g6.cell; have f0 := g6.free; have c1' := g7.cell; have f1 := g7.free; have c2 := g8.cell; have f2 := g8.free
      have n01 : r0 ≠ r1 := by omega
      have n02 : r0 ≠ r2 := by omega
      have n12 : r1 ≠ r2 := by omega
      clear hlim HST h1 h2 h3 h6 h7 h8 h9 h9' hno hno4 hnog c3 her
      gi_wp2
      refine ⟨(((hk1.trans (KeepsOthers.setCell _ _ _)).trans (KeepsOthers.setCell _ _ _)).trans (KeepsOthers.setCell _ _ _)).from _, acc.length + 1, er, rfl, ?_, ⟨?_, ?_, ?_⟩, ?_⟩
      · rw [HF.out, HD1.out, HST'.out]
      · exact ((g6.set _).grown (grownBy_setCell' _ r1 _) (some_ne n01)).grown (grownBy_setCell' _ r2 _) (some_ne n02)
      · exact ((g7.grown (grownBy_setCell' _ r0 _) (some_ne n01.symm)).set _).grown (grownBy_setCell' _ r2 _) (some_ne n12)
      · exact ((g8.grown (grownBy_setCell' _ r0 _) (some_ne n02.symm)).grown (grownBy_setCell' _ r1 _) (some_ne n12.symm)).set _
      · exact ((g10.store (by show w.heap.size ≤ r0; omega) _).store (by show w.heap.size ≤ r1; omega) _).store (by show w.heap.size ≤ r2; omega) _
  case done =>
    rintro D W hD ⟨v, vs, acc, ⟨h1, h2, h3, h4, h5⟩, ⟨h6, h7, h8⟩, ⟨cs, fz, h9⟩, h10⟩ hK
    have hlin : linesF All [] = (acc, 0, 0) := by
      rw [h5, ← HSND.out, List.drop_eq_nil_of_le (by simp)]
      rfl
    have HLIN := hidP hlin
    obtain ⟨av, cv, rfl, hsv⟩ := owns_slice h2
    have c3 := h1.cell
    have c0 := h6.cell; have f0 := h6.free; have c1' := h7.cell; have f1 := h7.free; have c2 := h8.cell; have f2 := h8.free
    have n01 : r0 ≠ r1 := by omega
    have n02 : r0 ≠ r2 := by omega
    have n12 : r1 ≠ r2 := by omega
    have HH2 := hidP h2; have HH3 := hidP h3
    have hhb : Box1 W r3 23 (.slice av acc.length cv) := h1
    clear h1 h2 h3 h5 h9 hlin hsv
    gi_wp2
    have hKO := ((KeepsOthers.setCell W ⟨r0, 0, none⟩ (.slice av acc.length cv)).trans (KeepsOthers.setCell _ ⟨r1, 0, none⟩ (.int .i64 0))).trans (KeepsOthers.setCell _ ⟨r2, 0, none⟩ (.int .i64 0))
    have hK' := hKO.same _ _ hK rfl
    have b0 := ((h6.set (.slice av acc.length cv)).grown (grownBy_setCell' _ r1 (.int .i64 0)) (some_ne n01)).grown (grownBy_setCell' _ r2 (.int .i64 0)) (some_ne n02)
    have b1 := ((h7.grown (grownBy_setCell' W r0 (.slice av acc.length cv)) (some_ne n01.symm)).set (.int .i64 0)).grown (grownBy_setCell' _ r2 (.int .i64 0)) (some_ne n12)
    have b2 := ((h8.grown (grownBy_setCell' W r0 (.slice av acc.length cv)) (some_ne n02.symm)).grown (grownBy_setCell' _ r1 (.int .i64 0)) (some_ne n12.symm)).set (.int .i64 0)
    have e5 := ((h10.store (p := ⟨r0, 0, none⟩) (by show w.heap.size ≤ r0; omega) (.slice av acc.length cv)).store (p := ⟨r1, 0, none⟩) (by show w.heap.size ≤ r1; omega) (.int .i64 0)).store (p := ⟨r2, 0, none⟩) (by show w.heap.size ≤ r2; omega) (.int .i64 0)
    have o5 := ((HH2.out.kept (grownBy_setCell' W r0 (.slice av acc.length cv)) (owns_tag HH2.out h6 (by decide))))
    have i5 := HH3.out.grown (grownBy_setCell' W r0 (.slice av acc.length cv)) h6 (by decide)
    have q7 := h7.grown (grownBy_setCell' W r0 (.slice av acc.length cv)) (some_ne n01.symm)
    have o6 := o5.kept (grownBy_setCell' _ r1 (.int .i64 0)) (owns_tag o5 q7 (by decide))
    have i6 := i5.grown (grownBy_setCell' _ r1 (.int .i64 0)) q7 (by decide)
    have q8 := (h8.grown (grownBy_setCell' W r0 (.slice av acc.length cv)) (some_ne n02.symm)).grown (grownBy_setCell' _ r1 (.int .i64 0)) (some_ne n12.symm)
    have o7 := o6.kept (grownBy_setCell' _ r2 (.int .i64 0)) (owns_tag o6 q8 (by decide))
    have i7 := i6.grown (grownBy_setCell' _ r2 (.int .i64 0)) q8 (by decide)
    generalize ((W.setCell ⟨r0, 0, none⟩ (.slice av acc.length cv)).setCell ⟨r1, 0, none⟩ (.int .i64 0)).setCell ⟨r2, 0, none⟩ (.int .i64 0) = U at *
    refine ⟨by simp, .inl ⟨_, _, rfl, run_takeDeferred hK', ?_⟩⟩
    have hgr := grownBy_putObj' U D (.deferred none)
    have hrr : ∀ r, some D = some r → ∃ o : Obj, U.heap[r]? = some o ∧ o.isCells = false := fun r e => by cases e; exact ⟨_, hK', rfl⟩
    obtain ⟨_, _, e8, s8⟩ := owns_slice (owns_book o7 hgr hrr)
    cases e8
    have hDw : w.heap.size ≤ D := Nat.le_trans HE.size hD
    refine ⟨_, results_three rfl rfl rfl rfl (load_ss (b0.book hgr hrr).cell) (load_in (b1.book hgr hrr).cell) (load_er (b2.book hgr hrr).cell), ?_⟩
    rw [HLIN.out]
    exact ⟨_, _, _, rfl, (i7.book hgr hrr).ss s8, e5.book hgr (fun r e => by cases e; exact hDw)⟩
  case stop =>
    rintro D cd pre W hD ⟨k, er, rfl, hlin, ⟨h6, h7, h8⟩, h10⟩ hK
    have HLIN := hidP hlin
    clear hlin
    gi_wp2
    refine ⟨by simp, .inl ⟨_, _, rfl, run_takeDeferred hK, ?_⟩⟩
    have hgr := grownBy_putObj' W D (.deferred none)
    have hrr : ∀ r, some D = some r → ∃ o : Obj, W.heap[r]? = some o ∧ o.isCells = false := fun r e => by cases e; exact ⟨_, hK, rfl⟩
    have hDw : w.heap.size ≤ D := Nat.le_trans HE.size hD
    refine ⟨_, results_three rfl rfl rfl rfl (load_ss (h6.book hgr hrr).cell) (load_in (h7.book hgr hrr).cell) (load_er (h8.book hgr hrr).cell), ?_⟩
    rw [HLIN.out]
    exact ⟨_, _, _, rfl, ⟨[], Sl.nil _, rfl, fun i hi => absurd hi (by simp)⟩, h10.book hgr (fun r e => by cases e; exact hDw)⟩

end Go.Proofs.YtlhaepcnhkaclaaDoor
