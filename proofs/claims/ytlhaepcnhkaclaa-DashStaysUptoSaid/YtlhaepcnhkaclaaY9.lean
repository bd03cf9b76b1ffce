/- Dashes: the program's pieces, walked. -/
import Derived.Test.YtlhaepcnhkaclaaY8
namespace Go.Proofs.Ytlhaepcnhkaclaa
set_option linter.unusedVariables false
set_option linter.unusedSimpArgs false
open Go Go.RowKit Go.Shelf
attribute [local go_sem] Oper.semAt_some

/-- How far the first lengths go. -/
def preS (pat : List Int) : Nat → Int
  | 0 => 0
  | k + 1 => preS pat k + patAt pat k
theorem preS_take {pat : List Int} : ∀ {k : Nat}, k ≤ pat.length → preS pat k = sumZ (pat.take k)
  | 0, _ => rfl
  | k + 1, h => by
    have hk : k < pat.length := by omega
    show preS pat k + patAt pat k = _
    rw [preS_take (by omega), sumZ_take hk, pat_at (by omega)]
    congr 2
    exact Nat.mod_eq_of_lt hk
theorem preS_shift {pat : List Int} : ∀ (k : Nat), preS pat (pat.length + k) = sumZ pat + preS pat k
  | 0 => by rw [Nat.add_zero, preS_take (Nat.le_refl _), List.take_length]; simp [preS]
  | k + 1 => by
    show preS pat (pat.length + k) + patAt pat (pat.length + k) = sumZ pat + (preS pat k + patAt pat k)
    rw [preS_shift k]
    have : patAt pat (pat.length + k) = patAt pat k := by unfold patAt; rw [Nat.add_mod_left]
    rw [this]
    omega
theorem preS_mono {pat : List Int} (hp : ∀ k, 1 ≤ patAt pat k) : ∀ {i j : Nat}, i ≤ j → preS pat i ≤ preS pat j
  | i, 0, h => by rw [Nat.le_zero.1 h]; exact Int.le_refl _
  | i, j + 1, h => by
    rcases Nat.lt_or_eq_of_le h with h1 | rfl
    · have := preS_mono hp (Nat.le_of_lt_succ h1)
      have := hp j
      show _ ≤ preS pat j + patAt pat j
      omega
    · exact Int.le_refl _
theorem spans_len {pat : List Int} {s0 : Int} (hp : ∀ k, 1 ≤ patAt pat k) (h16 : 0 < s0 + preS pat 16) : ∀ (f k : Nat) (s : Int), s = s0 + preS pat k → f + min k 16 ≤ (spansF pat f k s).length + 16
  | 0, k, s, _ => by omega
  | f + 1, k, s, h => by
    have e : s + patAt pat k = s0 + preS pat (k + 1) := by show _ = s0 + (preS pat k + patAt pat k); omega
    have ih := spans_len hp h16 f (k + 1) (s + patAt pat k) e
    unfold spansF
    by_cases h1 : 0 < s + patAt pat k
    · rw [if_pos h1, List.length_cons]
      omega
    · rw [if_neg h1]
      have : k + 1 < 16 := by
        rcases Nat.lt_or_ge (k + 1) 16 with h2 | h2
        · exact h2
        · have := preS_mono hp h2
          omega
      omega
theorem spans_many {pat : List Int} {ph : Int} (h0 : pat ≠ []) (h8 : pat.length ≤ 8) (hp : ∀ x ∈ pat, 1 ≤ x ∧ x ≤ 8388607) (hp0 : 0 ≤ ph) : 1000 < (spansF pat 2000 0 (-(ph.tmod (totD pat)))).length := by
  have hl := List.length_pos_iff.2 h0
  have hb := sumZ_bd hp
  have hpp : ∀ k, 1 ≤ patAt pat k := fun k => (pat_bd hl hp).1
  have h1 : preS pat (pat.length + pat.length) = sumZ pat + sumZ pat := by rw [preS_shift, preS_take (Nat.le_refl _), List.take_length]
  have h2 := preS_mono hpp (show pat.length + pat.length ≤ 16 by omega)
  have h3 : 1 ≤ totD pat ∧ totD pat ≤ sumZ pat + sumZ pat := by unfold totD; split <;> omega
  have h4 : ph.tmod (totD pat) < totD pat := by
    rw [Int.tmod_eq_emod_of_nonneg hp0]
    exact Int.emod_lt_of_pos ph (by omega)
  have := spans_len hpp (s0 := -(ph.tmod (totD pat))) (by omega) 2000 0 (-(ph.tmod (totD pat))) (by simp [preS])
  omega

/-- What holds between two rounds. -/
def CtI (w : World) (r6 r7 r8 r9 r10 r11 B2 B5 B6 : Nat) (vw v2 v6 : Value) (nw : Nat) (ws : List Way) (en : Int) (L : List Span) (pre : List Span) (W : World) : Prop :=
  ∃ (v : Value) (vs : List Value) (acc : List (List Pt)),
    (Box1 W r10 26 v ∧ W.ownsRow w.heap.size 24 2 v acc.length vs ∧ InnP W vs acc ∧ acc.length ≤ pre.length ∧ pre.length ≤ 1000 ∧ cutF ws en L 0 [] = cutF ws en (L.drop pre.length) pre.length acc) ∧
    (Box1 W r6 26 (.slice none 0 0) ∧ Box1 W r7 27 (.int .i64 0) ∧ Box1 W r8 64 vw ∧ Box1 W r9 3 (.int .i64 en) ∧ Box1 W r11 3 (.int .i64 (pre.length : Int))) ∧
    (Box1 W B2 25 v2 ∧ (∃ z, Box1 W B5 3 z) ∧ Box1 W B6 109 v6) ∧ W.ownsRow w.heap.size 108 6 vw nw (wys ws) ∧ Ext w W
/-- A round has left the loop: by break, or the function. -/
def CtX (w : World) (r6 r7 r10 : Nat) (ws : List Way) (en : Int) (L : List Span) (c : Code) (W : World) : Prop :=
  (c = .exit 1 ∧ ∃ (v : Value) (vs : List Value) (acc : List (List Pt)), (Box1 W r10 26 v ∧ W.ownsRow w.heap.size 24 2 v acc.length vs ∧ InnP W vs acc ∧ cutF ws en L 0 [] = (acc, 0)) ∧ Box1 W r6 26 (.slice none 0 0) ∧ Box1 W r7 27 (.int .i64 0) ∧ Ext w W) ∨
  (c = .ret ∧ cutF ws en L 0 [] = ([], 7) ∧ Box1 W r6 26 (.slice none 0 0) ∧ Box1 W r7 27 (.int .i64 7) ∧ Ext w W)
theorem InnP.book {W W' : World} {row : Option Nat} {vs : List Value} {acc : List (List Pt)} (h : InnP W vs acc) (hg : W.grownBy W' row) (hr : ∀ r, row = some r → ∃ o : Obj, W.heap[r]? = some o ∧ o.isCells = false) : InnP W' vs acc := h.map fun _ _ _ q => owns_book q hg hr
theorem InnP.grown {W W' : World} {vs : List Value} {acc : List (List Pt)} {k : Nat} {t : TypeId} {v : Value} (h : InnP W vs acc) (hg : W.grownBy W' (some k)) (hk : Box1 W k t v) (hne : 36 ≠ t) : InnP W' vs acc := h.map fun _ _ _ q => q.kept hg (owns_tag q hk hne)
theorem InnP.ext {W W' : World} {vs : List Value} {acc : List (List Pt)} (h : InnP W vs acc) (he : Ext W W') : InnP W' vs acc := h.map fun _ _ _ q => owns_ext q he
theorem InnP.row {W W' : World} {vs vs' : List Value} {acc : List (List Pt)} {B K n : Nat} {e : TypeId} {v : Value} (h : InnP W vs acc) (hv : W.ownsRow B e K v n vs') (hg : W.grownBy W' v.ownBlock) (hne : 36 ≠ e) : InnP W' vs acc := h.map fun _ _ _ q => q.kept hg (owns_other q hv hne)
theorem CtI.own {w : World} {r6 r7 r8 r9 r10 r11 B2 B5 B6 : Nat} {vw v2 v6 : Value} {nw : Nat} {ws : List Way} {en : Int} {L : List Span} {N : Nat} (hN : w.heap.size ≤ N) : OwnFrom N (CtI w r6 r7 r8 r9 r10 r11 B2 B5 B6 vw v2 v6 nw ws en L) := by
  rintro s W W' row ⟨v, vs, acc, ⟨h1, h2, h3, h4, h5, h6⟩, ⟨b6, b7, b8, b9, b11⟩, ⟨c2, ⟨z, c5⟩, c6⟩, how, hE⟩ hg hr
  have hr' : ∀ r, row = some r → ∃ o : Obj, W.heap[r]? = some o ∧ o.isCells = false := fun r e => (hr r e).2
  exact ⟨v, vs, acc, ⟨h1.book hg hr', owns_book h2 hg hr', h3.book hg hr', h4, h5, h6⟩, ⟨b6.book hg hr', b7.book hg hr', b8.book hg hr', b9.book hg hr', b11.book hg hr'⟩, ⟨c2.book hg hr', ⟨z, c5.book hg hr'⟩, c6.book hg hr'⟩, owns_book how hg hr', hE.book hg (fun r e => Nat.le_trans hN (hr r e).1)⟩
theorem CtX.own {w : World} {r6 r7 r10 : Nat} {ws : List Way} {en : Int} {L : List Span} {N : Nat} (hN : w.heap.size ≤ N) (c : Code) : OwnFrom N (fun (_ : List Span) => CtX w r6 r7 r10 ws en L c) := by
  rintro s W W' row h hg hr
  have hr' : ∀ r, row = some r → ∃ o : Obj, W.heap[r]? = some o ∧ o.isCells = false := fun r e => (hr r e).2
  rcases h with ⟨hc, v, vs, acc, ⟨h1, h2, h3, h4⟩, b6, b7, hE⟩ | ⟨hc, h4, b6, b7, hE⟩
  · exact .inl ⟨hc, v, vs, acc, ⟨h1.book hg hr', owns_book h2 hg hr', h3.book hg hr', h4⟩, b6.book hg hr', b7.book hg hr', hE.book hg (fun r e => Nat.le_trans hN (hr r e).1)⟩
  · exact .inr ⟨hc, h4, b6.book hg hr', b7.book hg hr', hE.book hg (fun r e => Nat.le_trans hN (hr r e).1)⟩
theorem CtI.step {w : World} {r6 r7 r8 r9 r10 r11 B2 B5 B6 : Nat} {vw v2 v6 : Value} {nw : Nat} {ws : List Way} {en : Int} {L : List Span} (o0 : w.heap.size ≤ B5) (o1 : r6 ≠ B5) (o2 : r7 ≠ B5) (o3 : r8 ≠ B5) (o4 : r9 ≠ B5) (o5 : r10 ≠ B5) (o6 : r11 ≠ B5) (o7 : B2 ≠ B5) (o8 : B6 ≠ B5)
    (s : List Span) (X Y : World) (h : CtI w r6 r7 r8 r9 r10 r11 B2 B5 B6 vw v2 v6 nw ws en L s X) (hs : StepZ B5 X Y) : CtI w r6 r7 r8 r9 r10 r11 B2 B5 B6 vw v2 v6 nw ws en L s Y := by
  obtain ⟨v, vs, acc, ⟨h1, h2, h3, h4, h5, h6⟩, ⟨b6, b7, b8, b9, b11⟩, ⟨c2, ⟨z, c5⟩, c6⟩, how, hE⟩ := h
  obtain ⟨hg, -, z', hz⟩ := hs
  exact ⟨v, vs, acc, ⟨h1.grown hg (some_ne o5), h2.kept hg (owns_tag h2 c5 (by decide)), h3.grown hg c5 (by decide), h4, h5, h6⟩, ⟨b6.grown hg (some_ne o1), b7.grown hg (some_ne o2), b8.grown hg (some_ne o3), b9.grown hg (some_ne o4), b11.grown hg (some_ne o6)⟩, ⟨c2.grown hg (some_ne o7), ⟨z', hz⟩, c6.grown hg (some_ne o8)⟩, how.kept hg (owns_tag how c5 (by decide)), hE.book hg (fun r e => by cases e; exact o0)⟩
theorem CtX.step {w : World} {r6 r7 r10 B5 : Nat} {ws : List Way} {en : Int} {L : List Span} (o0 : w.heap.size ≤ B5) (o1 : r6 ≠ B5) (o2 : r7 ≠ B5) (o5 : r10 ≠ B5) (c : Code) (X Y : World) (h : CtX w r6 r7 r10 ws en L c X) (hs : StepZ B5 X Y) : CtX w r6 r7 r10 ws en L c Y := by
  obtain ⟨hg, ⟨z, c5⟩, z', hz'⟩ := hs
  rcases h with ⟨hc, v, vs, acc, ⟨h1, h2, h3, h4⟩, b6, b7, hE⟩ | ⟨hc, h4, b6, b7, hE⟩
  · exact .inl ⟨hc, v, vs, acc, ⟨h1.grown hg (some_ne o5), h2.kept hg (owns_tag h2 c5 (by decide)), h3.grown hg c5 (by decide), h4⟩, b6.grown hg (some_ne o1), b7.grown hg (some_ne o2), hE.book hg (fun r e => by cases e; exact o0)⟩
  · exact .inr ⟨hc, h4, b6.grown hg (some_ne o1), b7.grown hg (some_ne o2), hE.book hg (fun r e => by cases e; exact o0)⟩
theorem wpListIn_appP {F : Fence} {m : Nat} {P : Program} {ops : Array Oper} {rest : List Oper} {o : Oper} {a : Act} {Q : Exit → Act → World → Prop} {w : World} {t e : TypeId} {K : Nat} {z : Value} {bytes B : Nat} (hT : SlTK P t e K z bytes)
    (hgd : o.guard = none) (s x : Operand) (ho : o.op = .call { callee := .builtin .append, args := #[s, x], argTypes := #[t, t] })
    {v : Value} {n : Nat} {xs : List Value} (hown : w.ownsRow B e K v n xs) (hB : B ≤ w.heap.size) {ad : Addr} {c : Nat} (news : List Value) (hs : a.eval s = v) (hx : a.eval x = .slice (some ad) 1 c)
    (hl : news.length = K) (hnews : ∀ j y, news[j]? = some y → w.cell? (ad.add j) = some y) (h1 : ∀ u ∈ news, u.oneCell' = true) (hb : n + 1 ≤ 17592186044416) (hb' : (n + 1) * bytes ≤ 140737488355328)
    (h : ∀ v' w', w'.ownsRow B e K v' (n + 1) (xs ++ news) → w.grownBy w' v.ownBlock → wpListIn F m P ops Q rest (a.put o.dst v') w') : wpListIn F m P ops Q (o :: rest) a w := by
  obtain ⟨ht, hK, i, hi, hz, hsz, hby, hzs⟩ := hT
  refine wpListIn_append_own w hgd s x t ho B e i z K bytes ht hi hz hsz hby hzs hK v n xs hs hown ad 1 c news hx (by rw [hl, Nat.one_mul]) hnews h1 (by unfold maxLen; omega) hb' hB ?_
  intro v' w' h2 h3 _
  exact h v' w' h2 h3
theorem cells_new (W : World) (cs : Array Value) (e : TypeId) : ∀ (j : Nat) (y : Value), cs.toList[j]? = some y → (W.alloc (.cells cs e)).cell? ((⟨W.heap.size, 0, none⟩ : Addr).add j) = some y := by
  intro j y hj
  have hb := Bl.new (e := e) (cs := cs) (rfl : W.heap.size = W.heap.size) j
  have e1 : (⟨W.heap.size, 0, none⟩ : Addr).add j = ⟨W.heap.size, j, none⟩ := by unfold Addr.add; split <;> simp_all
  rw [e1, hb, ← hj]
  simp
theorem cells_newA {A : Nat} (W : World) (cs : Array Value) (e : TypeId) (hA : A = W.heap.size) : ∀ (j : Nat) (y : Value), cs.toList[j]? = some y → (W.alloc (.cells cs e)).cell? ((⟨A, 0, none⟩ : Addr).add j) = some y := by
  subst hA
  exact cells_new W cs e
theorem spans_pos {pat : List Int} : ∀ (f k : Nat) (s : Int) (x : Span), x ∈ spansF pat f k s → 0 < x.1.2
  | 0, _, _, _, h => absurd h (by simp [spansF])
  | f + 1, k, s, x, h => by
    unfold spansF at h
    split at h
    · rcases List.mem_cons.1 h with rfl | h
      · assumption
      · exact spans_pos f _ _ x h
    · exact spans_pos f _ _ x h
theorem absWI {F : Fence} {n : Nat} {P : Program} {c : Code} {Q : Exit → Act → World → Prop} {a : Act} {w : World} (h : ∀ u, u = w → c.wpIn F n P Q a u) : c.wpIn F n P Q a w := h w rfl

set_option maxRecDepth 100000 in
set_option maxHeartbeats 8000000 in
theorem dd_Cut_main (a : Option Addr) (n cap : Nat) (l : List Pt) (c : Bool) (pa : Option Addr) (pn pc : Nat) (pat : List Int) (ph : Int) (w : World) (h : SlP w a n cap l) (hp : Sl w pa pn pc (izs pat)) (hm : mayD pat ph = true) (hf : fitL l = true) (h0 : pat ≠ []) (hn : n ≤ 4194303) :
    Calls Try.prog 8 #[.agg #[.slice a n cap, .bool c], .slice pa pn pc, .int .i64 ph] w (RetCut w ((cutF (waysF (rndL l c) 0) (longL l c) (spansF pat 2000 0 (-(ph.tmod (totD pat)))) 0 []).1.map (fun x => (x, false)), (cutF (waysF (rndL l c) 0) (longL l c) (spansF pat 2000 0 (-(ph.tmod (totD pat)))) 0 []).2)) := by
  obtain ⟨⟨hm1, hm2, hm3⟩, hm4⟩ := mayD_iff.1 hm
  have HM := hidP (fun u (q : Sl u pa pn pc (izs pat)) => dd_May pa pn pc pat ph u q)
  have HF := hidP (fun u (q : SlP u a n cap l) => dd_fits a n cap l c u q)
  rw [hm] at HM
  rw [hf] at HF
  have HWY := hidP (fun u (q : SlP u a n cap l) => dd_ways a n cap l c u q hn)
  have HLG := hidP (fun u (q : SlP u a n cap l) => g_Long a n cap l c u q (by omega))
  have hpl := hp.z_len
  have hpn : 0 < pn := by rw [← hpl]; exact List.length_pos_iff.2 h0
  have hpn8 : pn ≤ 8 := by omega
  obtain ⟨g, off, rfl, hcell⟩ := hp.2.2.2 hpn
  have hgw : g < w.heap.size := World.block_lt_of_cell? _ _ (hcell 0 _ (List.getElem?_eq_getElem (by rw [izs_len]; omega)))
  have hln := h.len
  have hlb := long_bd (l := l) (c := c) (by omega)
  have hl0 := long_nn l c
  have HOK := hidP (okW_ways (l := rndL l c) (by have := rnd_len l c; rw [hln] at this; rw [this]; split <;> omega))
  have HMANY := hidP (spans_many h0 hm1 hm4 hm2)
  have HPX := hidP hm4
  have HPOS := hidP (fun x (hx : x ∈ spansF pat 2000 0 (-(ph.tmod (totD pat)))) => spans_pos _ _ _ x hx)
  have H := hidP h; have HP := hidP hp
  have hnw : ∀ (ws : List Way), ws = waysF (rndL l c) 0 → ws.length ≤ 4194304 := fun ws e => by
    have hA : ∀ (m : List Pt) (k : Int), (waysF m k).length ≤ m.length := by
      intro m
      induction m with
      | nil => intro k; simp [waysF]
      | cons p r ih =>
        intro k
        cases r with
        | nil => simp [waysF]
        | cons q r =>
          unfold waysF
          split
          · have := ih (k + lenP p q); simp only [List.length_cons] at this ⊢; omega
          · have := ih k; simp only [List.length_cons] at this ⊢; omega
    have h1 := hA (rndL l c) 0
    have := rnd_len l c
    rw [hln] at this
    rw [e]
    split at this <;> omega
  have HNW := hidP (hnw _ rfl)
  have HIT := hidP (fun (u : World) (B2 B3 B5 B6 : Nat) (q2 : Box1 u B2 25 (.slice (some ⟨g, off, none⟩) pn pc)) (q3 : Box1 u B3 3 (.int .i64 ph)) (q5 : Box1 u B5 3 (.int .i64 0)) (q6 : Box1 u B6 109 (.func (.func 55) #[] #[.pointer (some ⟨B2, 0, none⟩), .pointer (some ⟨B5, 0, none⟩)])) (qs : Sl u (some ⟨g, off, none⟩) pn pc (izs pat)) (n1 : B2 ≠ B5) (n2 : B6 ≠ B5) (n3 : g ≠ B5) =>
    dd_iter (8 - 1) B2 B3 B5 B6 g off pn pc pat ph u (by omega) q2 q3 q5 q6 qs hpn hpn8 hm4 n1 n2 n3 hm2 hm3)
  clear h hp hcell hm4 hnw hln hpl hm hf h0
  generalize waysF (rndL l c) 0 = ws at *
  generalize longL l c = en at *
  generalize spansF pat 2000 0 (-(ph.tmod (totD pat))) = L at *
  refine (callsIn_wide (n := 8)).1 ?_
  refine callsIn_of_wp_marks Try.func8 rfl trivial ?_ rfl
  simp only [Try.ntmps8, List.size_toArray, List.length_cons, List.length_nil, Nat.reduceAdd, Nat.reduceSub, Array.replicate_succ, Array.replicate_zero, List.push_toArray, List.append_toArray, List.nil_append, List.cons_append]
  gi_wp2
  refine ⟨trivial, ?_⟩
  refine absCI (fun x1 hx1 => ?_)
  have hx : Ext w x1 := by rw [hx1]; exact ext_al (ext_al (ext_al (Ext.refl _) _) _) _
  have bp : Bl x1 w.heap.size #[.slice a n cap, .bool c] := by rw [hx1]; exact ((Bl.new (by simp)).alloc (by simp)).alloc (by simp)
  have b6 : Box1 x1 (w.heap.size + 1) 26 (.slice none 0 0) := by rw [hx1]; exact Box1.new1.ext (ext_al (Ext.refl _) _)
  have b7 : Box1 x1 (w.heap.size + 1 + 1) 27 (.int .i64 0) := by rw [hx1]; exact Box1.new2
  have HE := hx
  clear hx hx1
  refine (callsIn_wide.2 (HM.out _ (HP.out.ext HE))).mono ?_
  rintro e u1 ⟨rfl, hx⟩
  replace bp := Bl.ext hx bp (Nat.succ_pos _); replace b6 := b6.ext hx; replace b7 := b7.ext hx; replace HE := HE.trans hx
  clear hx
  gi_wp2
  refine ⟨trivial, ?_⟩
  refine (callsIn_wide.2 (HF.out _ (H.out.ext HE))).mono ?_
  rintro e u2 ⟨rfl, hx⟩
  replace bp := Bl.ext hx bp (Nat.succ_pos _); replace b6 := b6.ext hx; replace b7 := b7.ext hx; replace HE := HE.trans hx
  clear hx
  have hpz : ((pn : Int) == 0) = false := by simp; omega
  gi_wp2
  refine ⟨trivial, ?_⟩
  refine (callsIn_wide.2 (HWY.out _ (H.out.ext HE))).mono ?_
  rintro e u3 ⟨aw, nw, cw, rfl, hsw, how, hx⟩
  replace how := own_base how (show w.heap.size ≤ u2.heap.size + 1 from Nat.le_trans HE.size (Nat.le_succ _))
  have hnw : nw ≤ 4194304 := by rw [← hsw.len]; exact HNW.out
  replace bp := Bl.ext hx bp (Nat.succ_pos _); replace b6 := b6.ext hx; replace b7 := b7.ext hx; replace HE := HE.trans hx
  clear hx hsw
  have hal : Ext u3 (u3.alloc (.cells #[.slice aw nw cw] 64)) := ext_al (Ext.refl _) _
  have kp := Bl.ext hal bp (Nat.succ_pos _)
  have kp0 : (u3.alloc (.cells #[.slice aw nw cw] 64)).cell? ⟨w.heap.size, 0, none⟩ = some (.slice a n cap) := kp 0
  have kp1 : (u3.alloc (.cells #[.slice aw nw cw] 64)).cell? ⟨w.heap.size, 1, none⟩ = some (.bool c) := kp 1
  clear kp hal
  gi_wp2
  refine ⟨trivial, ?_⟩
  clear kp0 kp1
  refine absCI (fun x4 hx4 => ?_)
  have hx : Ext u3 x4 := by rw [hx4]; exact ext_al (Ext.refl _) _
  have b8 : Box1 x4 u3.heap.size 64 (.slice aw nw cw) := by rw [hx4]; exact Box1.new
  have q7 := b7.lt
  replace bp := Bl.ext hx bp (Nat.succ_pos _); replace b6 := b6.ext hx; replace b7 := b7.ext hx; replace HE := HE.trans hx
  replace how := owns_ext how hx
  clear hx hx4
  refine (callsIn_wide.2 (HLG.out _ (H.out.ext HE))).mono ?_
  rintro e u4 ⟨rfl, hx⟩
  replace bp := Bl.ext hx bp (Nat.succ_pos _); replace b6 := b6.ext hx; replace b7 := b7.ext hx; replace HE := HE.trans hx
  replace how := owns_ext how hx; replace b8 := b8.ext hx
  clear hx
  gi_wp2
  refine ⟨trivial, ?_⟩
  refine absCI (fun x5 hx5 => ?_)
  have hx : Ext u4 x5 := by rw [hx5]; exact ext_al (ext_al (ext_al (Ext.refl _) _) _) _
  have b9 : Box1 x5 u4.heap.size 3 (.int .i64 en) := by rw [hx5]; exact (Box1.new.ext (ext_al (Ext.refl _) _)).ext (ext_al (Ext.refl _) _)
  have b10 : Box1 x5 (u4.heap.size + 1) 26 (.slice none 0 0) := by rw [hx5]; exact Box1.new1.ext (ext_al (Ext.refl _) _)
  have b11 : Box1 x5 (u4.heap.size + 1 + 1) 3 (.int .i64 0) := by rw [hx5]; exact Box1.new2
  have q8 := b8.lt
  replace bp := Bl.ext hx bp (Nat.succ_pos _); replace b6 := b6.ext hx; replace b7 := b7.ext hx; replace HE := HE.trans hx
  replace how := owns_ext how hx; replace b8 := b8.ext hx
  clear hx hx5
  refine (dd_spans _ pn pc ph x5 Fence.wide 7 trivial rfl).mono ?_
  rintro e u6 ⟨rfl, sb2, sb3, sb5, sb6, hx⟩
  have q11 := b11.lt
  replace bp := Bl.ext hx bp (Nat.succ_pos _); replace b6 := b6.ext hx; replace b7 := b7.ext hx; replace HE := HE.trans hx
  replace how := owns_ext how hx; replace b8 := b8.ext hx
  replace b9 := b9.ext hx; replace b10 := b10.ext hx; replace b11 := b11.ext hx
  clear hx
  have p1 : w.heap.size < w.heap.size + 1 := by omega
  have p2 : w.heap.size + 1 < w.heap.size + 1 + 1 := by omega
  have p4 : u4.heap.size < u4.heap.size + 1 := by omega
  have p5 : u4.heap.size + 1 < u4.heap.size + 1 + 1 := by omega
  have p7 : x5.heap.size < x5.heap.size + 1 := by omega
  have p8 : x5.heap.size + 1 < x5.heap.size + 1 + 1 := by omega
  have p9 : x5.heap.size + 1 + 1 < x5.heap.size + 1 + 1 + 1 := by omega
  generalize x5.heap.size + 1 + 1 + 1 = B6 at *
  generalize x5.heap.size + 1 + 1 = B5 at *
  generalize x5.heap.size + 1 = B3 at *
  generalize x5.heap.size = B2 at *
  generalize u4.heap.size + 1 + 1 = r11 at *
  generalize u4.heap.size + 1 = r10 at *
  generalize u4.heap.size = r9 at *
  generalize u3.heap.size = r8 at *
  generalize w.heap.size + 1 + 1 = r7 at *
  generalize w.heap.size + 1 = r6 at *
  have hgB5 : g ≠ B5 := by omega
  have HSEQ := hidP (HIT.out u6 B2 B3 B5 B6 sb2 sb3 sb5 sb6 (HP.out.ext HE) (by omega) (by omega) hgB5)
  have HI0 : CtI w r6 r7 r8 r9 r10 r11 B2 B5 B6 (.slice aw nw cw) (.slice (some ⟨g, off, none⟩) pn pc) (.func (.func 55) #[] #[.pointer (some ⟨B2, 0, none⟩), .pointer (some ⟨B5, 0, none⟩)]) nw ws en L [] u6 :=
    ⟨_, [], [], ⟨b10, World.ownsRow_nil _ _ _ _, ⟨rfl, fun i hi => absurd hi (by simp)⟩, Nat.le_refl _, by simp, rfl⟩, ⟨b6, b7, b8, b9, b11⟩, ⟨sb2, ⟨_, sb5⟩, sb6⟩, how, HE⟩
  clear sb2 sb3 sb5 sb6 how b6 b7 b8 b9 b10 b11 bp HIT
  have HX := hidP hgw
  gi_wp2
  refine wpIn_rangeN rfl (by omega) (gf := 56) (lb := #[.pointer (some ⟨B3, 0, none⟩), .pointer (some ⟨B2, 0, none⟩), .pointer (some ⟨B6, 0, none⟩), .pointer (some ⟨B5, 0, none⟩)]) rfl trivial (enters_of Try.func56 (by kernel_rfl) rfl)
    HSEQ.out KeepS.trans (fun W l o o' _ h hc => KeepS.book W l o o' h hc)
    (fun X Y k o hxy hk ho hc => (hxy.1.block k (Array.getElem?_eq_some_iff.1 ho).1 (by
      intro e
      cases e
      obtain ⟨z, hz⟩ := hxy.2.1
      have hz' : X.heap[B5]? = some (.cells #[z] 3 (0, 0)) := hz
      rw [hz'] at ho
      cases ho
      cases hc)).trans ho) (fun _ => rfl)
    (CtI w r6 r7 r8 r9 r10 r11 B2 B5 B6 (.slice aw nw cw) (.slice (some ⟨g, off, none⟩) pn pc) (.func (.func 55) #[] #[.pointer (some ⟨B2, 0, none⟩), .pointer (some ⟨B5, 0, none⟩)]) nw ws en L) (fun c _ => CtX w r6 r7 r10 ws en L c)
    (CtI.own HE.size) (fun c => CtX.own HE.size c) (CtI.step (by omega) (by omega) (by omega) (by omega) (by omega) (by omega) (by omega) (by omega) (by omega)) (fun c _ X Y => CtX.step (by omega) (by omega) (by omega) (by omega) c X Y) HI0
    (fun x a' W => ∃ b, a' = { tmps := #[.agg #[.slice a n cap, .bool c], .slice (some ⟨g, off, none⟩) pn pc, .int .i64 ph, .pointer (some ⟨w.heap.size, 0, none⟩), undef, undef, .pointer (some ⟨r6, 0, none⟩), .pointer (some ⟨r7, 0, none⟩), .pointer (some ⟨r8, 0, none⟩), .pointer (some ⟨r9, 0, none⟩), .pointer (some ⟨r10, 0, none⟩), .pointer (some ⟨r11, 0, none⟩), .pointer (some ⟨b, 0, none⟩), .bool x.2, undef, .bool false, .slice (some ⟨g, off, none⟩) pn pc, .int .i64 ph, .bool true, .bool false, .bool false, .agg #[.slice a n cap, .bool c], .bool true, .bool false, .bool false, .slice (some ⟨g, off, none⟩) pn pc, .int .i64 (pn : Int), .bool false, undef, undef, undef, undef, undef, undef, undef, .agg #[.slice a n cap, .bool c], .slice aw nw cw, .agg #[.slice a n cap, .bool c], .int .i64 en, .slice (some ⟨g, off, none⟩) pn pc, .int .i64 ph, .func (.func 56) #[] #[.pointer (some ⟨B3, 0, none⟩), .pointer (some ⟨B2, 0, none⟩), .pointer (some ⟨B6, 0, none⟩), .pointer (some ⟨B5, 0, none⟩)], .agg #[.int .i64 x.1.1, .int .i64 x.1.2], .bool x.2, undef, undef, undef, undef, undef, undef, undef, undef, undef, undef, undef, undef, undef, undef, undef, undef, undef, undef, undef, undef, undef, undef, undef, undef, undef, undef, undef, undef, undef], defers := [] } ∧ W.heap[b]? = some (.cells #[.int .i64 x.1.1, .int .i64 x.1.2] 70 (0, 0))) (fun x a' s X Y row hs hg hr => by
      obtain ⟨b, h1, h2⟩ := hs
      refine ⟨b, h1, ?_⟩
      refine (hg.block b (Array.getElem?_eq_some_iff.1 h2).1 ?_).trans h2
      intro he
      obtain ⟨-, o, ho, hc⟩ := hr b he.symm
      rw [h2] at ho
      cases ho
      cases hc)
    ?assign ?body ?done ?stop
  case assign =>
    rintro lp pre x suf W K hL hI hK
    unfold encS
    have hal : Ext W (W.alloc (.cells #[.int .i64 x.1.1, .int .i64 x.1.2] 70)) := ext_al (Ext.refl _) _
    have hgb := gb_ext hal none
    have hI2 := CtI.own HE.size pre _ _ none hI hgb (fun r e => by cases e)
    gi_wp2
    exact hK _ _ ((KeepsOthers.alloc _ _).from _) ⟨hal.size, fun k o _ ho _ => (hal.block k (Array.getElem?_eq_some_iff.1 ho).1).trans ho⟩ hI2 ⟨W.heap.size, rfl, World.alloc_heap_new W _⟩
  case done =>
    rintro W ⟨v, vs, acc, ⟨h1, h2, h3, h4, h5, h6⟩, -⟩
    have := HMANY.out
    omega
  case body =>
    rintro lp pre x suf a' W hL hlp ⟨v, vs, acc, ⟨h1, h2, h3, h4, h5, h6⟩, ⟨b6, b7, b8, b9, b11⟩, ⟨c2, ⟨z5, c5⟩, c6⟩, how, hE⟩ ⟨b, rfl, hb⟩
    have hxp := HPOS.out x (by rw [← hL]; simp)
    have HD1 : Hid (L.drop pre.length = x :: suf) := hidP (by rw [← hL]; simp)
    have HD2 : Hid (L.drop (pre ++ [x]).length = suf) := hidP (by rw [← hL, show pre ++ x :: suf = (pre ++ [x]) ++ suf by simp, List.drop_left])
    rw [HD1.out] at h6
    have HF6 := hidP h6
    clear h6
    obtain ⟨⟨xs, xt⟩, xd⟩ := x
    simp only [] at hxp hb
    obtain ⟨av, cv, rfl, hsv⟩ := SlK.of_owns h2
    have hb11 : b ≠ r11 := by
      intro e
      subst e
      have e2 := hb.symm.trans b11
      simp at e2
    have y0 : W.cell? ⟨b, 0, none⟩ = some (.int .i64 xs) := by simp [World.cell?, hb]
    have y1 : W.cell? ⟨b, 1, none⟩ = some (.int .i64 xt) := by simp [World.cell?, hb]
    have e9 := b9.cell
    by_cases hbr : en ≤ xs
    · have hR : Hid (cutF ws en L 0 [] = (acc, 0)) := hidP (by
        rw [HF6.out]
        unfold cutF
        simp only []
        rw [if_pos hbr])
      gi_wp2
      exact ⟨KeepsFrom.refl _ _, .inl ⟨rfl, _, vs, acc, ⟨h1, h2, h3, hR.out⟩, b6, b7, hE⟩⟩
    · have hlt : xs < en := by omega
      have e11 := b11.cell; have f11 := b11.free
      have hset := grownBy_setCell' W r11 (.int .i64 ((pre.length : Int) + 1))
      have g11 := b11.set (.int .i64 ((pre.length : Int) + 1))
      have hpl1 : ((pre ++ [((xs, xt), xd)]).length : Int) = (pre.length : Int) + 1 := by simp
      by_cases hmany : 1000 < pre.length + 1
      · have hR : Hid (cutF ws en L 0 [] = ([], 7)) := hidP (by
          rw [HF6.out]
          unfold cutF
          simp only []
          rw [if_neg hbr, if_pos hmany])
        have e6 := b6.cell; have f6 := b6.free; have e7 := b7.cell; have f7 := b7.free
        clear hbr
        have n67 : r6 ≠ r7 := by omega
        have n611 : r6 ≠ r11 := by omega
        have n711 : r7 ≠ r11 := by omega
        have k6 := b6.grown hset (some_ne n611)
        have k7 := b7.grown hset (some_ne n711)
        gi_wp2
        refine ⟨(((KeepsOthers.setCell _ _ _).trans (KeepsOthers.setCell _ _ _)).trans (KeepsOthers.setCell _ _ _)).from _, .inr ⟨rfl, hR.out, ?_, ?_, ?_⟩⟩
        · exact (k6.set _).grown (grownBy_setCell' _ r7 _) (some_ne n67)
        · exact (k7.grown (grownBy_setCell' _ r6 _) (some_ne n67.symm)).set _
        · exact ((hE.store (p := ⟨r11, 0, none⟩) (by show w.heap.size ≤ r11; omega) _).store (p := ⟨r6, 0, none⟩) (by show w.heap.size ≤ r6; omega) _).store (p := ⟨r7, 0, none⟩) (by show w.heap.size ≤ r7; omega) _
      · have hfew : pre.length + 1 ≤ 1000 := by omega
        have k1 := h1.grown hset (some_ne (by omega : r10 ≠ r11))
        have k2 := h2.kept hset (owns_tag h2 b11 (by decide))
        have k3 := h3.grown hset b11 (by decide)
        have k6 := b6.grown hset (some_ne (by omega : r6 ≠ r11))
        have k7 := b7.grown hset (some_ne (by omega : r7 ≠ r11))
        have k8 := b8.grown hset (some_ne (by omega : r8 ≠ r11))
        have k9 := b9.grown hset (some_ne (by omega : r9 ≠ r11))
        have kc2 := c2.grown hset (some_ne (by omega : B2 ≠ r11))
        have kc5 := c5.grown hset (some_ne (by omega : B5 ≠ r11))
        have kc6 := c6.grown hset (some_ne (by omega : B6 ≠ r11))
        have kow := how.kept hset (owns_tag how b11 (by decide))
        have kE := hE.store (p := ⟨r11, 0, none⟩) (by show w.heap.size ≤ r11; omega) (.int .i64 ((pre.length : Int) + 1))
        have kb : (W.setCell ⟨r11, 0, none⟩ (.int .i64 ((pre.length : Int) + 1))).heap[b]? = some (.cells #[.int .i64 xs, .int .i64 xt] 70 (0, 0)) := (hset.block b (Array.getElem?_eq_some_iff.1 hb).1 (some_ne hb11)).trans hb
        have hKS : KeepS [B2, B5, B6, g] W (W.setCell ⟨r11, 0, none⟩ (.int .i64 ((pre.length : Int) + 1))) := ⟨hset.size, fun k o hk ho _ => (hset.block k (Array.getElem?_eq_some_iff.1 ho).1 (some_ne (by
          have := HX.out
          simp only [List.mem_cons, List.not_mem_nil, or_false] at hk
          rcases hk with rfl | rfl | rfl | rfl <;> omega))).trans ho⟩
        have hKO : KeepsOthers W (W.setCell ⟨r11, 0, none⟩ (.int .i64 ((pre.length : Int) + 1))) := KeepsOthers.setCell _ _ _
        cases xd
        · have hR : Hid (cutF ws en L 0 [] = cutF ws en suf (pre.length + 1) acc) := hidP (by
            rw [HF6.out]
            conv => lhs; unfold cutF
            simp only []
            rw [if_neg hbr, if_neg hmany, if_neg (by simp)])
          clear hbr hmany
          gi_wp2
          refine ⟨hKO.from _, hKS, _, vs, acc, ⟨k1, k2, k3, by simp; omega, by simp; omega, ?_⟩, ⟨k6, k7, k8, k9, ?_⟩, ⟨kc2, ⟨_, kc5⟩, kc6⟩, kow, kE⟩
          · rw [HD2.out, hR.out]; simp
          · rw [hpl1]; exact g11
        · have HPS := hidP (fun u (q : SlW u aw nw cw ws) => dd_piece aw nw cw ws (max xs 0) (min xt en) u q HOK.out hnw (by omega) (by omega) (by omega) (by omega))
          have hR : cutF ws en L 0 [] = cutF ws en suf (pre.length + 1) (if 1 < (pieceF ws (max xs 0) (min xt en)).length then acc ++ [pieceF ws (max xs 0) (min xt en)] else acc) := by
            rw [HF6.out]
            conv => lhs; unfold cutF
            simp only []
            rw [if_neg hbr, if_neg hmany, if_pos trivial]
          generalize pieceF ws (max xs 0) (min xt en) = R at *
          have e8 := k8.cell; have e9' := k9.cell; have e10 := k1.cell
          have y0' : (W.setCell ⟨r11, 0, none⟩ (.int .i64 ((pre.length : Int) + 1))).cell? ⟨b, 0, none⟩ = some (.int .i64 xs) := by simp [World.cell?, kb]
          have y1' : (W.setCell ⟨r11, 0, none⟩ (.int .i64 ((pre.length : Int) + 1))).cell? ⟨b, 1, none⟩ = some (.int .i64 xt) := by simp [World.cell?, kb]
          clear hbr hmany
          gi_wp2
          refine ⟨trivial, ?_⟩
          refine (callsIn_wide.2 (HPS.out _ (SlK.of_owns' kow))).mono ?_
          rintro e u1 ⟨a1, c1, rfl, ho1, hx1⟩
          replace ho1 := own_base ho1 (Nat.zero_le _)
          replace k1 := k1.ext hx1; replace k2 := owns_ext k2 hx1; replace k3 := k3.ext hx1
          replace k6 := k6.ext hx1; replace k7 := k7.ext hx1; replace k8 := k8.ext hx1; replace k9 := k9.ext hx1; replace g11 := g11.ext hx1
          replace kc2 := kc2.ext hx1; replace kc5 := kc5.ext hx1; replace kc6 := kc6.ext hx1; replace kow := owns_ext kow hx1
          replace kE := kE.trans hx1
          replace hKO := hKO.trans (others_ext hx1)
          replace hKS : KeepS [B2, B5, B6, g] W u1 := hKS.trans ⟨hx1.size, fun k o _ ho _ => (hx1.block k (Array.getElem?_eq_some_iff.1 ho).1).trans ho⟩
          have hal : Ext u1 (u1.alloc (.cells #[.slice a1 R.length c1, .bool false] 24)) := ext_al (Ext.refl _) _
          have ho1' := owns_ext ho1 hal
          replace k1 := k1.ext hal; replace k2 := owns_ext k2 hal; replace k3 := k3.ext hal
          replace k6 := k6.ext hal; replace k7 := k7.ext hal; replace k8 := k8.ext hal; replace k9 := k9.ext hal; replace g11 := g11.ext hal
          replace kc2 := kc2.ext hal; replace kc5 := kc5.ext hal; replace kc6 := kc6.ext hal; replace kow := owns_ext kow hal
          replace kE := kE.trans hal
          replace hKO := hKO.trans (others_ext hal)
          replace hKS := hKS.trans ⟨hal.size, fun k o _ ho _ => (hal.block k (Array.getElem?_eq_some_iff.1 ho).1).trans ho⟩
          clear ho1 hx1 kb y0' y1' e8 e9' e10
          have e10 := k1.cell
          by_cases hlen : 1 < R.length
          · rw [if_pos hlen] at hR
            have HRR := hidP hR
            have hli : (1 : Int) < (R.length : Int) := by omega
            have hal2 : Ext (u1.alloc (.cells #[.slice a1 R.length c1, .bool false] 24)) ((u1.alloc (.cells #[.slice a1 R.length c1, .bool false] 24)).alloc (.cells #[.slice a1 R.length c1, .bool false] 24)) := ext_al (Ext.refl _) _
            have q1 := k1.ext hal2; have q2 := owns_ext k2 hal2; have q3 := k3.ext hal2; have ho2 := owns_ext ho1' hal2
            have q6 := k6.ext hal2; have q7 := k7.ext hal2; have q8 := k8.ext hal2; have q9 := k9.ext hal2; have q11 := g11.ext hal2
            have qc2 := kc2.ext hal2; have qc5 := kc5.ext hal2; have qc6 := kc6.ext hal2; have qow := owns_ext kow hal2
            have qE := kE.trans hal2
            have qKO := hKO.trans (others_ext hal2)
            have qKS := hKS.trans ⟨hal2.size, fun k o _ ho _ => (hal2.block k (Array.getElem?_eq_some_iff.1 ho).1).trans ho⟩
            clear k1 k2 k3 k6 k7 k8 k9 g11 kc2 kc5 kc6 kow kE hKO hKS ho1' hal2 hal hR
            have hl9 : R.length = R.length := rfl
            gi_wp2_with (gi_at_builtin; refine wpListIn_appP T_ln rfl _ _ rfl q2 qE.size [.slice a1 R.length c1, .bool false] rfl rfl rfl (cells_newA _ #[.slice a1 R.length c1, .bool false] _ (by simp)) (by intro u hu; simp at hu; rcases hu with rfl | rfl <;> rfl) (by omega) (by omega) ?_; intro v' w' hown' hgr; obtain ⟨a6, c6', rfl, -⟩ := SlK.of_owns hown'; have k1b := q1.grown hgr (owns_box q2 q1 (by decide)); have c10 := k1b.cell; have f10 := k1b.free)
            have hset10 := grownBy_setCell' w' r10 (.slice a6 (acc.length + 1) c6')
            have gg : ∀ {r : Nat} {t : TypeId} {u : Value}, Box1 _ r t u → 24 ≠ t → r ≠ r10 → Box1 (w'.setCell ⟨r10, 0, none⟩ (.slice a6 (acc.length + 1) c6')) r t u := fun hq hne hr => (Box1.grown hq hgr (owns_box q2 hq hne)).grown hset10 (some_ne hr)
            have ho3 := ho2.kept hgr (owns_other ho2 q2 (by decide))
            have ho4 := ho3.kept hset10 (owns_tag ho3 k1b (by decide))
            have qo3 := qow.kept hgr (owns_other qow q2 (by decide))
            have qo4 := qo3.kept hset10 (owns_tag qo3 k1b (by decide))
            have ow4 := hown'.kept hset10 (owns_tag hown' k1b (by decide))
            refine ⟨((qKO.trans (KeepsOthers.of_grownBy hgr (fun j o e hj => owns_cells q2 e hj))).trans (KeepsOthers.setCell _ _ _)).from _, qKS.trans ⟨Nat.le_trans hgr.size hset10.size, fun k o hk ho _ => ?_⟩, _, vs ++ [.slice a1 R.length c1, .bool false], acc ++ [R], ⟨k1b.set _, ?_, ?_, ?_, by simp; omega, ?_⟩, ⟨gg q6 (by decide) (by omega), gg q7 (by decide) (by omega), gg q8 (by decide) (by omega), gg q9 (by decide) (by omega), ?_⟩, ⟨gg qc2 (by decide) (by omega), ⟨_, gg qc5 (by decide) (by omega)⟩, gg qc6 (by decide) (by omega)⟩, qo4, ?_⟩
            · have hk1 : some k ≠ (Value.slice av acc.length cv).ownBlock := by
                have hgx := HX.out
                simp only [List.mem_cons, List.not_mem_nil, or_false] at hk
                rcases hk with rfl | rfl | rfl | rfl
                · exact owns_box q2 qc2 (by decide)
                · exact owns_box q2 qc5 (by decide)
                · exact owns_box q2 qc6 (by decide)
                · intro e
                  have := (q2.lt _ e.symm).1
                  omega
              have hk2 : k ≠ r10 := by
                have hgx := HX.out
                simp only [List.mem_cons, List.not_mem_nil, or_false] at hk
                rcases hk with rfl | rfl | rfl | rfl <;> omega
              have e1 := (hgr.block k (Array.getElem?_eq_some_iff.1 ho).1 hk1).trans ho
              exact (hset10.block k (Array.getElem?_eq_some_iff.1 e1).1 (some_ne hk2)).trans e1
            · rw [show (acc ++ [R]).length = acc.length + 1 by simp]
              exact ow4
            · exact ((q3.row q2 hgr (by decide)).grown hset10 k1b (by decide)).snoc ho4
            · simp; omega
            · rw [HD2.out, HRR.out]; simp
            · rw [hpl1]; exact gg q11 (by decide) (by omega)
            · exact (qE.book hgr (fun r e => (q2.lt r e).1)).store (p := ⟨r10, 0, none⟩) (by show w.heap.size ≤ r10; omega) _
          · rw [if_neg hlen] at hR
            have HRR := hidP hR
            have hli : (R.length : Int) ≤ 1 := by omega
            clear hR
            gi_wp2
            refine ⟨hKO.from _, hKS, _, vs, acc, ⟨k1, k2, k3, by simp; omega, by simp; omega, ?_⟩, ⟨k6, k7, k8, k9, ?_⟩, ⟨kc2, ⟨_, kc5⟩, kc6⟩, kow, kE⟩
            · rw [HD2.out, HRR.out]; simp
            · rw [hpl1]; exact g11
  case stop =>
    rintro D cd pre W hD (⟨rfl, v, vs, acc, ⟨h1, h2, h3, h4⟩, b6, b7, hE⟩ | ⟨rfl, h4, b6, b7, hE⟩) hK
    · obtain ⟨av, cv, rfl, hsv⟩ := SlK.of_owns h2
      have HR4 := hidP h4
      have c1 := h1.cell
      have e6 := b6.cell; have f6 := b6.free; have e7 := b7.cell; have f7 := b7.free
      have n67 : r6 ≠ r7 := by omega
      have n106 : r10 ≠ r6 := by omega
      have n107 : r10 ≠ r7 := by omega
      have HH2 := hidP h2; have HH3 := hidP h3
      clear h2 h3 h4 hsv
      gi_wp2
      have hKO := (KeepsOthers.setCell W ⟨r6, 0, none⟩ (.slice av acc.length cv)).trans (KeepsOthers.setCell _ ⟨r7, 0, none⟩ (.int .i64 0))
      have hK' := hKO.same _ _ hK rfl
      have z6 := (b6.set (.slice av acc.length cv)).grown (grownBy_setCell' _ r7 (.int .i64 0)) (some_ne n67)
      have z7 := (b7.grown (grownBy_setCell' W r6 (.slice av acc.length cv)) (some_ne n67.symm)).set (.int .i64 0)
      have z5 := (hE.store (p := ⟨r6, 0, none⟩) (by show w.heap.size ≤ r6; omega) (.slice av acc.length cv)).store (p := ⟨r7, 0, none⟩) (by show w.heap.size ≤ r7; omega) (.int .i64 0)
      have q7 := b7.grown (grownBy_setCell' W r6 (.slice av acc.length cv)) (some_ne n67.symm)
      have o5 := HH2.out.kept (grownBy_setCell' W r6 (.slice av acc.length cv)) (owns_tag HH2.out b6 (by decide))
      have i5 := HH3.out.grown (grownBy_setCell' W r6 (.slice av acc.length cv)) b6 (by decide)
      have o6 := o5.kept (grownBy_setCell' _ r7 (.int .i64 0)) (owns_tag o5 q7 (by decide))
      have i6 := i5.grown (grownBy_setCell' _ r7 (.int .i64 0)) q7 (by decide)
      generalize (W.setCell ⟨r6, 0, none⟩ (.slice av acc.length cv)).setCell ⟨r7, 0, none⟩ (.int .i64 0) = U at *
      refine ⟨by simp, .inl ⟨_, _, rfl, run_takeDeferred hK', ?_⟩⟩
      have hgr := grownBy_putObj' U D (.deferred none)
      have hrr : ∀ r, some D = some r → ∃ o : Obj, U.heap[r]? = some o ∧ o.isCells = false := fun r e => by cases e; exact ⟨_, hK', rfl⟩
      have hDw : w.heap.size ≤ D := Nat.le_trans HE.size hD
      refine ⟨_, results_two rfl rfl rfl (load_lns (z6.book hgr hrr).cell) (load_er (z7.book hgr hrr).cell), ?_⟩
      rw [HR4.out]
      exact ⟨_, _, _, rfl, (i6.book hgr hrr).ln (SlK.of_owns' (owns_book o6 hgr hrr)), z5.book hgr (fun r e => by cases e; exact hDw)⟩
    · have HR4 := hidP h4
      clear h4
      gi_wp2
      refine ⟨by simp, .inl ⟨_, _, rfl, run_takeDeferred hK, ?_⟩⟩
      have hgr := grownBy_putObj' W D (.deferred none)
      have hrr : ∀ r, some D = some r → ∃ o : Obj, W.heap[r]? = some o ∧ o.isCells = false := fun r e => by cases e; exact ⟨_, hK, rfl⟩
      have hDw : w.heap.size ≤ D := Nat.le_trans HE.size hD
      refine ⟨_, results_two rfl rfl rfl (load_lns (b6.book hgr hrr).cell) (load_er (b7.book hgr hrr).cell), ?_⟩
      rw [HR4.out]
      exact ⟨_, _, _, rfl, SlLn.nil _, hE.book hgr (fun r e => by cases e; exact hDw)⟩

/-- The program's cut, whatever comes. -/
theorem dd_Cut (a : Option Addr) (n cap : Nat) (l : List Pt) (c : Bool) (pa : Option Addr) (pn pc : Nat) (pat : List Int) (ph : Int) (w : World) (h : SlP w a n cap l) (hp : Sl w pa pn pc (izs pat)) (hn : n ≤ 4194303) :
    Calls Try.prog 8 #[.agg #[.slice a n cap, .bool c], .slice pa pn pc, .int .i64 ph] w (RetCut w (cutA l c pat ph)) := by
  unfold cutA
  cases hm : mayD pat ph
  · rw [if_pos rfl]
    exact dd_Cut_no a n cap l c pa pn pc pat ph w h hp hm
  · rw [if_neg (by simp)]
    cases hf : fitL l
    · rw [if_pos rfl]
      exact dd_Cut_far a n cap l c pa pn pc pat ph w h hp hm hf
    · rw [if_neg (by simp)]
      by_cases h0 : pat = []
      · rw [if_pos h0]
        exact dd_Cut_all a n cap l c pa pn pc pat ph w h hp hm hf h0 (by omega)
      · rw [if_neg h0]
        exact dd_Cut_main a n cap l c pa pn pc pat ph w h hp hm hf h0 hn

end Go.Proofs.Ytlhaepcnhkaclaa
