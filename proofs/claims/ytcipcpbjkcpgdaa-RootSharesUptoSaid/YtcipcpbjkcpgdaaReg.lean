/- A region that draws its order of evaluation, walked once along a plan: what reads only is taken as early as it may come up, the rest in the one order that is left; 'R w u' says what a later world u keeps of w. -/
import Derived.OrdersHeld
import Derived.Deep.RegionHeld
import Derived.Deep.QuietTactic
import Derived.BigQuiet
import Derived.WalkKit
namespace Go.Proofs.Ytcipcpbjkcpgdaa
set_option linter.unusedVariables false
open Go Go.RowKit

/-- All blocks that were there are as they were. -/
def Ext (w u : World) : Prop := Below w.heap.size w u
theorem Ext.refl (w : World) : Ext w w := Below.refl _ _
theorem Ext.trans {w u v : World} (h : Ext w u) (h' : Ext u v) : Ext w v := Below.trans h (h'.mono h.size)
theorem Ext.drew {w u : World} (h : Ext w u) : Ext w u.drew := Below.drew h
theorem Ext.drewN {w u : World} (h : Ext w u) (n : Nat) : Ext w (u.drewN n) := ⟨h.os, h.tape, h.output, h.size, h.block⟩
theorem Ext.alloc {w u : World} (h : Ext w u) (o : Obj) : Ext w (u.alloc o) := Below.alloc h h.size o
theorem Ext.store {w u : World} (h : Ext w u) {p : Addr} (hp : w.heap.size ≤ p.block) (v : Value) : Ext w (u.setCell p v) := Below.setCell h hp v
theorem Ext.cell {w u : World} (h : Ext w u) (p : Addr) (hp : (w.cell? p).isSome = true) : u.cell? p = w.cell? p := by
  obtain ⟨v, hv⟩ := Option.isSome_iff_exists.1 hp
  exact Below.cell h (World.block_lt_of_cell? w p hv)
theorem Ext.cell' {w u : World} (h : Ext w u) {p : Addr} {v : Value} (hp : w.cell? p = some v) : u.cell? p = some v := by
  rw [h.cell p (by rw [hp]; rfl), hp]

section
variable {P : Program} {ops : Array Oper} {Q : Exit → Act → World → Prop} {md : Region.Mode}

/-- What each operation waits for, directly or through others. -/
def waits (md : Region.Mode) (ops : List Oper) : List Nat :=
  ops.foldl (fun acc o => acc ++ [o.after.toList.foldl (fun s e => if Region.binds md e then s ||| 2 ^ e.on ||| acc.getD e.on 0 else s) 0]) []
def bars (md : Region.Mode) (ops : Array Oper) (listed : Array Bool) (j : Nat) : Bool :=
  (List.range ops.size).all fun i => !(listed.getD i false) || ((waits md ops.toList).getD j 0).testBit i

theorem edges_bit (md : Region.Mode) (acc : List Nat) (i : Nat) : ∀ (es : List Edge) (s : Nat), (es.foldl (fun s e => if Region.binds md e then s ||| 2 ^ e.on ||| acc.getD e.on 0 else s) s).testBit i = true →
    s.testBit i = true ∨ ∃ e ∈ es, Region.binds md e = true ∧ (e.on = i ∨ (acc.getD e.on 0).testBit i = true)
  | [], s, h => .inl h
  | e :: es, s, h => by
    simp only [List.foldl_cons] at h
    rcases edges_bit md acc i es _ h with h1 | ⟨e', he', hb⟩
    · by_cases hb : Region.binds md e = true
      · simp only [hb, if_true, Nat.testBit_or, Bool.or_eq_true] at h1
        rcases h1 with (h1 | h1) | h1
        · exact .inl h1
        · refine .inr ⟨e, by simp, hb, .inl ?_⟩
          rw [Nat.testBit_two_pow] at h1
          simpa using h1
        · exact .inr ⟨e, by simp, hb, .inr h1⟩
      · simp only [hb, Bool.false_eq_true, if_false] at h1
        exact .inl h1
    · exact .inr ⟨e', by simp [he'], hb⟩

/-- The listed ones' own predecessors are listed. -/
def Down (md : Region.Mode) (ops : Array Oper) (listed : Array Bool) : Prop :=
  ∀ m o, ops[m]? = some o → listed.getD m false = true → ∀ e ∈ o.after, Region.binds md e = true → listed.getD e.on false = true

theorem waits_listed (md : Region.Mode) (listed : Array Bool) (i : Nat) : ∀ (l pre : List Oper) (acc : List Nat), acc.length = pre.length →
    Down md (pre ++ l).toArray listed →
    (∀ j, j < acc.length → (acc.getD j 0).testBit i = true → (∀ o, (pre ++ l)[j]? = some o → ∀ e ∈ o.after, Region.binds md e = true → listed.getD e.on false = true) → listed.getD i false = true) →
    ∀ j, ((l.foldl (fun acc o => acc ++ [o.after.toList.foldl (fun s e => if Region.binds md e then s ||| 2 ^ e.on ||| acc.getD e.on 0 else s) 0]) acc).getD j 0).testBit i = true →
      (∀ o, (pre ++ l)[j]? = some o → ∀ e ∈ o.after, Region.binds md e = true → listed.getD e.on false = true) → listed.getD i false = true
  | [], pre, acc, hlen, hd, ha, j, hj, hp => by
    simp only [List.foldl_nil] at hj
    by_cases hlt : j < acc.length
    · exact ha j hlt hj hp
    · rw [List.getD_eq_getElem?_getD, List.getElem?_eq_none (by omega)] at hj
      simp at hj
  | o :: l, pre, acc, hlen, hd, ha, j, hj, hp => by
    simp only [List.foldl_cons] at hj
    have e1 : pre ++ o :: l = (pre ++ [o]) ++ l := by simp
    refine waits_listed md listed i l (pre ++ [o]) _ (by simp [hlen]) (by rw [← e1]; exact hd) ?_ j hj (by rw [← e1]; exact hp)
    intro k hk hb hpk
    by_cases hlt : k < acc.length
    · rw [List.getD_eq_getElem?_getD, List.getElem?_append_left hlt, ← List.getD_eq_getElem?_getD] at hb
      exact ha k hlt hb (by rw [e1]; exact hpk)
    · have hk' : k = acc.length := by simp at hk; omega
      subst hk'
      rw [List.getD_eq_getElem?_getD] at hb
      simp only [List.getElem?_concat_length, Option.getD_some] at hb
      have ho : ((pre ++ [o]) ++ l)[acc.length]? = some o := by
        rw [hlen]; simp
      rcases edges_bit md acc i o.after.toList 0 hb with h0 | ⟨e, he, hbe, h | h⟩
      · simp at h0
      · rw [← h]; exact hpk o ho e (by simpa using he) hbe
      · have hel : e.on < acc.length := by
          rcases Nat.lt_or_ge e.on acc.length with h' | h'
          · exact h'
          · rw [List.getD_eq_getElem?_getD, List.getElem?_eq_none h'] at h
            simp at h
        have hlis := hpk o ho e (by simpa using he) hbe
        exact ha e.on hel h (fun o' ho' e' he' hb' => hd e.on o' (by simpa using ho') hlis e' he' hb')

theorem bars_listed {listed listed' : Array Bool} {i j : Nat} (hd : Down md ops listed) (hb : bars md ops listed' j = true) (hi : i < ops.size) (hl : listed'.getD i false = true)
    (hj : ∀ o, ops[j]? = some o → ∀ e ∈ o.after, Region.binds md e = true → listed.getD e.on false = true) : listed.getD i false = true := by
  have h1 := List.all_eq_true.1 hb i (List.mem_range.2 hi)
  rw [hl] at h1
  simp only [Bool.not_true, Bool.false_or] at h1
  exact waits_listed md listed i ops.toList [] [] rfl (by simpa using hd) (fun j hj => by simp at hj) j h1 (by simpa using hj)

theorem Down.add {listed : Array Bool} {i : Nat} (hd : Down md ops listed) (hr : i ∈ Region.ready md ops listed) : Down md ops (listed.setIfInBounds i true) := by
  intro m o ho hm e he hb
  by_cases him : i = m
  · subst him
    obtain ⟨_, o', ho', hall⟩ := mem_ready.1 hr
    rw [ho] at ho'; cases ho'
    exact getD_set_true (hall e he hb)
  · rw [getD_set_ne false him] at hm
    exact getD_set_true (hd m o ho hm e he hb)

def wpX (P : Program) (md : Region.Mode) (ops : Array Oper) (Q : Exit → Act → World → Prop) : Nat → Array Bool → (World → Prop) → Act → World → Prop
  | 0, listed, _, a, w => Region.ready md ops listed = [] ∧ Q .normal a w
  | fuel + 1, listed, S, a, w =>
    (Region.ready md ops listed = [] → Q .normal a w) ∧
    ∀ i ∈ Region.ready md ops listed, wpOp P ops Q i (fun a' w' => ∃ S' : World → Prop, (bars md ops listed i = true ∨ ∀ u, S' u → S u) ∧ S' w' ∧ wpX P md ops Q fuel (listed.setIfInBounds i true) S' a' w') a w

theorem wpAny_of_X : ∀ (fuel : Nat) (listed : Array Bool) (S : World → Prop) (a : Act) (w : World), wpX P md ops Q fuel listed S a w → wpAny P md ops Q fuel listed a w
  | 0, _, _, _, _, h => h
  | fuel + 1, _, _, _, _, h => ⟨h.1, fun i hi => wpOp_mono (fun a' w' ⟨S', _, _, h'⟩ => wpAny_of_X fuel _ S' a' w' h') (h.2 i hi)⟩

theorem YieldsIf.sub {S S' : World → Prop} (hs : ∀ u, S' u → S u) {o : Oper} {v : Value} {a : Act} (h : YieldsIf P ops S o v a) : YieldsIf P ops S' o v a :=
  h.imp (fun ⟨h1, h2⟩ => ⟨h1, fun w hw => h2 w (hs w hw)⟩) id

theorem wpX_first {i : Nat} {oi : Oper} {v : Value} (hi : ops[i]? = some oi) (hsel : ∀ (j : Nat) (o : Oper) cs b, ops[j]? = some o → o.op ≠ .select cs b)
    (hQ : ∀ c a w, Q (.panic c) (a.put oi.dst v) w → Q (.panic c) a w) :
    ∀ (fuel : Nat) (listed : Array Bool) (S : World → Prop) (a : Act) (w : World),
      (∀ j oj, ops[j]? = some oj → j ≠ i → listed.getD j true = false → (∀ e ∈ oj.after, Region.binds md e = true → e.on ≠ i) → oi.apart ops oj = true) →
      Down md ops listed → i ∈ Region.ready md ops listed → YieldsIf P ops S oi v a → S w →
      wpX P md ops Q fuel (listed.setIfInBounds i true) S (a.put oi.dst v) w → wpX P md ops Q (fuel + 1) listed S a w := by
  intro fuel
  induction fuel with
  | zero =>
    intro listed S a w _ _ hr hy hS H
    refine ⟨fun h => (by rw [h] at hr; cases hr), fun j hj => ?_⟩
    by_cases hji : j = i
    · subst hji; exact hy.wpOp hi hS ⟨S, .inr fun _ h => h, hS, H⟩
    · have := ready_mono hj hji
      rw [H.1] at this
      cases this
  | succ fuel ih =>
    intro listed S a w hfree hd hr hy hS H
    refine ⟨fun h => (by rw [h] at hr; cases hr), fun j hj => ?_⟩
    by_cases hji : j = i
    · subst hji; exact hy.wpOp hi hS ⟨S, .inr fun _ h => h, hS, H⟩
    · have h1 := H.2 j (ready_mono hj hji)
      obtain ⟨hjun, oj, hoj, hall⟩ := mem_ready.1 hj
      have h0 := (mem_ready.1 hr).1
      have hsz : i < listed.size := by
        rcases Nat.lt_or_ge i listed.size with h' | h'
        · exact h'
        · simp [Array.getElem?_eq_none h'] at h0
      have hnot : ∀ e ∈ oj.after, Region.binds md e = true → e.on ≠ i := fun e he hb heq => by
        have h1 := hall e he hb
        rw [heq] at h1
        simp [hsz] at h0 h1; rw [h0] at h1; cases h1
      have hbar : bars md ops (listed.setIfInBounds i true) j = false := by
        cases hb : bars md ops (listed.setIfInBounds i true) j with
        | false => rfl
        | true =>
          exfalso
          have hil : i < ops.size := (Array.getElem?_eq_some_iff.1 hi).1
          have hg : (listed.setIfInBounds i true).getD i false = true := by simp [hsz]
          have := bars_listed hd hb hil hg (fun o ho e he hbe => by rw [hoj] at ho; cases ho; exact hall e he hbe)
          simp [hsz] at h0 this
          rw [h0] at this; cases this
      have h2 := wpOp_putIf hoj (hfree j oj hoj hji hjun hnot) (fun cs b => hsel i oi cs b hi) (fun cs b => hsel j oj cs b hoj) hQ hy h1
      have hfree' : ∀ k ok, ops[k]? = some ok → k ≠ i → (listed.setIfInBounds j true).getD k true = false →
          (∀ e ∈ ok.after, Region.binds md e = true → e.on ≠ i) → oi.apart ops ok = true := fun k ok hk hki hun hno => by
        refine hfree k ok hk hki ?_ hno
        by_cases hjk : j = k
        · subst hjk; exact hjun
        · rw [getD_set_ne true hjk] at hun; exact hun
      refine wpOp_mono (fun a' w' ⟨hy', S', hsub, hS', h3⟩ => ?_) h2
      have hsub' : ∀ u, S' u → S u := by
        rcases hsub with hb | hs
        · rw [hbar] at hb; cases hb
        · exact hs
      refine ⟨S', .inr hsub', hS', ih (listed.setIfInBounds j true) S' a' w' hfree' (hd.add hj) (ready_mono hr (Ne.symm hji)) (YieldsIf.sub hsub' hy') hS' ?_⟩
      rw [Array.setIfInBounds_comm _ _ hji]
      exact h3

/-- The plan of a walk: q: it reads only, and is taken first · l: it alone may come up; what was there stays · b: it alone may come up, and it waits for all that came before · br: one of several that may come up. -/
inductive Plan where
  | done
  | q (i : Nat) (p : Plan)
  | l (i : Nat) (p : Plan)
  | b (i : Nat) (p : Plan)
  | br (i : Nat) (p m : Plan)

def planOk (md : Region.Mode) (ops : Array Oper) : Plan → Array Bool → List Nat → Bool
  | .done, listed, skip => skip.isEmpty && (Region.ready md ops listed).isEmpty
  | .q i p, listed, skip => skip.isEmpty && Region.free md ops listed i && (Region.ready md ops listed).contains i && planOk md ops p (listed.setIfInBounds i true) []
  | .l i p, listed, skip => (Region.ready md ops listed).contains i && (Region.ready md ops listed).all (fun j => j == i || skip.contains j) && planOk md ops p (listed.setIfInBounds i true) []
  | .b i p, listed, skip => (Region.ready md ops listed).contains i && (Region.ready md ops listed).all (fun j => j == i || skip.contains j) && bars md ops listed i && planOk md ops p (listed.setIfInBounds i true) []
  | .br i p m, listed, skip => (Region.ready md ops listed).contains i && planOk md ops p (listed.setIfInBounds i true) [] && planOk md ops m listed (i :: skip)

/-- The walk along a plan. -/
def wpE (R : World → World → Prop) (P : Program) (ops : Array Oper) (Q : Exit → Act → World → Prop) : Plan → Act → World → Prop
  | .done, a, w => Q .normal a w
  | .q i p, a, w => ∃ oi v, ops[i]? = some oi ∧ YieldsIf P ops (R w) oi v a ∧ wpE R P ops Q p (a.put oi.dst v) w
  | .l i p, a, w => wpOp P ops Q i (fun a' w' => R w w' ∧ wpE R P ops Q p a' w') a w
  | .b i p, a, w => wpOp P ops Q i (fun a' w' => wpE R P ops Q p a' w') a w
  | .br i p m, a, w => wpOp P ops Q i (fun a' w' => R w w' ∧ wpE R P ops Q p a' w') a w ∧ wpE R P ops Q m a w

def unl (l : Array Bool) : Nat := l.toList.count false
theorem unl_set {l : Array Bool} {i : Nat} (h : l.getD i true = false) : unl l = unl (l.setIfInBounds i true) + 1 := by
  have hsz : i < l.size := by
    rcases Nat.lt_or_ge i l.size with h' | h'
    · exact h'
    · simp [Array.getElem?_eq_none h'] at h
  have hv : l[i] = false := by simpa [hsz] using h
  unfold unl
  rw [Array.toList_setIfInBounds, List.count_set (by simpa using hsz)]
  have hm : 0 < l.toList.count false := List.count_pos_iff.2 (by rw [← hv]; simp)
  have hv' : l.toList[i]'(by simpa using hsz) = false := by simpa using hv
  rw [hv']
  simp only [beq_self_eq_true, if_true, show (true == false) = false from rfl, Bool.false_eq_true, if_false]
  omega

theorem wpX_of_plan {R : World → World → Prop} (hR : ∀ w, R w w) (hT : ∀ w u v, R w u → R u v → R w v)
    (hsel : Region.noSelect ops = true) (hQ : ∀ d v c (a : Act) w, Q (.panic c) (a.put d v) w → Q (.panic c) a w) : ∀ (p : Plan) (fuel : Nat) (listed : Array Bool) (skip : List Nat) (a : Act) (w : World),
      planOk md ops p listed skip = true → Down md ops listed → unl listed ≤ fuel + 1 →
      (∀ j ∈ skip, wpOp P ops Q j (fun a' w' => ∃ S' : World → Prop, (bars md ops listed j = true ∨ ∀ u, S' u → R w u) ∧ S' w' ∧ wpX P md ops Q fuel (listed.setIfInBounds j true) S' a' w') a w) →
      wpE R P ops Q p a w → wpX P md ops Q (fuel + 1) listed (R w) a w := by
  intro p
  induction p with
  | done =>
    intro fuel listed skip a w hp _ _ _ h
    simp only [planOk, Bool.and_eq_true, List.isEmpty_iff] at hp
    exact ⟨fun _ => h, fun i hi => by rw [hp.2] at hi; cases hi⟩
  | q i p ih =>
    intro fuel listed skip a w hp hd hf _ h
    simp only [planOk, Bool.and_eq_true, List.isEmpty_iff] at hp
    obtain ⟨⟨⟨_, hfree⟩, hr⟩, hp⟩ := hp
    obtain ⟨oi, v, hi, hy, h⟩ := h
    have hr' : i ∈ Region.ready md ops listed := by simpa using hr
    have hu := unl_set (mem_ready.1 hr').1
    refine wpX_first hi (Region.noSelect_spec hsel) (hQ _ _) fuel listed _ a w (Region.free_spec hi hfree) hd hr' hy (hR w) ?_
    cases fuel with
    | zero =>
      have h0 : unl (listed.setIfInBounds i true) = 0 := by omega
      have hnone : Region.ready md ops (listed.setIfInBounds i true) = [] := by
        cases hr2 : Region.ready md ops (listed.setIfInBounds i true) with
        | nil => rfl
        | cons x xs =>
          have hx : x ∈ Region.ready md ops (listed.setIfInBounds i true) := by rw [hr2]; simp
          have := unl_set (mem_ready.1 hx).1
          omega
      have := ih 0 (listed.setIfInBounds i true) [] _ w hp (hd.add hr') (by omega) (fun _ h => by cases h) h
      exact ⟨hnone, this.1 hnone⟩
    | succ fuel => exact ih fuel _ [] _ w hp (hd.add hr') (by omega) (fun _ h => by cases h) h
  | l i p ih =>
    intro fuel listed skip a w hp hd hf hs h
    simp only [planOk, Bool.and_eq_true, List.all_eq_true, Bool.or_eq_true, beq_iff_eq] at hp
    obtain ⟨⟨hr, hall⟩, hp⟩ := hp
    have hr' : i ∈ Region.ready md ops listed := by simpa using hr
    have hu := unl_set (mem_ready.1 hr').1
    refine ⟨fun h0 => by (rw [h0] at hr'; cases hr'), fun j hj => ?_⟩
    rcases hall j hj with rfl | hk
    · refine wpOp_mono (fun a' w' ⟨hw, h'⟩ => ⟨R w', .inr (fun u hu => hT _ _ _ hw hu), hR w', ?_⟩) h
      cases fuel with
      | zero =>
        have hnone : Region.ready md ops (listed.setIfInBounds j true) = [] := by
          cases hr2 : Region.ready md ops (listed.setIfInBounds j true) with
          | nil => rfl
          | cons x xs =>
            have hx : x ∈ Region.ready md ops (listed.setIfInBounds j true) := by rw [hr2]; simp
            have := unl_set (mem_ready.1 hx).1
            omega
        have := ih 0 (listed.setIfInBounds j true) [] _ w' hp (hd.add hr') (by omega) (fun _ h => by cases h) h'
        exact ⟨hnone, this.1 hnone⟩
      | succ fuel => exact ih fuel _ [] _ w' hp (hd.add hr') (by omega) (fun _ h => by cases h) h'
    · exact hs j (by simpa using hk)
  | b i p ih =>
    intro fuel listed skip a w hp hd hf hs h
    simp only [planOk, Bool.and_eq_true, List.all_eq_true, Bool.or_eq_true, beq_iff_eq] at hp
    obtain ⟨⟨⟨hr, hall⟩, hb⟩, hp⟩ := hp
    have hr' : i ∈ Region.ready md ops listed := by simpa using hr
    have hu := unl_set (mem_ready.1 hr').1
    refine ⟨fun h0 => by (rw [h0] at hr'; cases hr'), fun j hj => ?_⟩
    rcases hall j hj with rfl | hk
    · refine wpOp_mono (fun a' w' h' => ⟨R w', .inl hb, hR w', ?_⟩) h
      cases fuel with
      | zero =>
        have hnone : Region.ready md ops (listed.setIfInBounds j true) = [] := by
          cases hr2 : Region.ready md ops (listed.setIfInBounds j true) with
          | nil => rfl
          | cons x xs =>
            have hx : x ∈ Region.ready md ops (listed.setIfInBounds j true) := by rw [hr2]; simp
            have := unl_set (mem_ready.1 hx).1
            omega
        have := ih 0 (listed.setIfInBounds j true) [] _ w' hp (hd.add hr') (by omega) (fun _ h => by cases h) h'
        exact ⟨hnone, this.1 hnone⟩
      | succ fuel => exact ih fuel _ [] _ w' hp (hd.add hr') (by omega) (fun _ h => by cases h) h'
    · exact hs j (by simpa using hk)
  | br i p m ihp ihm =>
    intro fuel listed skip a w hp hd hf hs h
    simp only [planOk, Bool.and_eq_true] at hp
    obtain ⟨⟨hr, hp⟩, hm⟩ := hp
    have hr' : i ∈ Region.ready md ops listed := by simpa using hr
    have hu := unl_set (mem_ready.1 hr').1
    refine ihm fuel listed (i :: skip) a w hm hd hf (fun j hj => ?_) h.2
    rcases List.mem_cons.1 hj with rfl | hj
    · refine wpOp_mono (fun a' w' ⟨hw, h'⟩ => ⟨R w', .inr (fun u hu => hT _ _ _ hw hu), hR w', ?_⟩) h.1
      cases fuel with
      | zero =>
        have hnone : Region.ready md ops (listed.setIfInBounds j true) = [] := by
          cases hr2 : Region.ready md ops (listed.setIfInBounds j true) with
          | nil => rfl
          | cons x xs =>
            have hx : x ∈ Region.ready md ops (listed.setIfInBounds j true) := by rw [hr2]; simp
            have := unl_set (mem_ready.1 hx).1
            omega
        have := ihp 0 (listed.setIfInBounds j true) [] _ w' hp (hd.add hr') (by omega) (fun _ h => by cases h) h'
        exact ⟨hnone, this.1 hnone⟩
      | succ fuel => exact ihp fuel _ [] _ w' hp (hd.add hr') (by omega) (fun _ h => by cases h) h'
    · exact hs j hj

/-- Q, but no panic. -/
def NoPan (Q : Exit → Act → World → Prop) : Exit → Act → World → Prop
  | .panic _, _, _ => False
  | e, a, w => Q e a w
theorem NoPan.imp : ∀ (e : Exit) (a : Act) (w : World), NoPan Q e a w → Q e a w := fun e a w h => by
  cases e <;> first | exact h | exact (h : False).elim

/-- The beginning. -/
theorem wp_region_plan {R : World → World → Prop} (p : Plan) {id : Nat} {a : Act} {w : World} (hm : P.follows .mixedOrders = true) (hsel : Region.noSelect ops = true)
    (hp : planOk .any ops p (Array.replicate ops.size false) [] = true) (hn : (ops.size == 0) = false) (hR : ∀ w, R w w) (hT : ∀ w u v, R w u → R u v → R w v)
    (h : wpE R P ops (NoPan Q) p a w.drew) : (Code.region id ops true).wp P Q a w := by
  refine Code.wp_mono NoPan.imp (wp_region_any hm ?_)
  obtain ⟨n, hn⟩ : ∃ n, ops.size = n + 1 := ⟨ops.size - 1, by have := beq_eq_false_iff_ne.1 hn; omega⟩
  have hu : unl (Array.replicate ops.size false) ≤ n + 1 := by simp [unl, hn]
  have := wpX_of_plan (P := P) (Q := NoPan Q) hR hT hsel (fun _ _ _ _ _ h => h) p n (Array.replicate ops.size false) [] a w.drew hp (fun m o _ hm => by simp only [Array.getD_eq_getD_getElem?, Array.getElem?_replicate] at hm; split at hm <;> simp at hm) hu (fun _ h => by cases h) h
  rw [hn] at this ⊢
  exact wpAny_of_X _ _ _ _ _ this

/-- Number i of a list, so that its text comes out. -/
def nth {α : Type} : List α → Nat → Option α
  | [], _ => none
  | x :: _, 0 => some x
  | _ :: r, i + 1 => nth r i
theorem nth_eq {α : Type} : ∀ (l : List α) (i : Nat), nth l i = l.toArray[i]?
  | [], i => by simp [nth]
  | x :: _, 0 => by simp [nth]
  | x :: r, i + 1 => by have := nth_eq r i; simp at this; simp [nth, this]

section
variable {R : World → World → Prop} {i : Nat} {p : Plan} {oi : Oper} {a : Act} {w : World} {L : List Oper}
/-- It reads only. -/
theorem wpE_q {v : Value} (hi : nth L i = some oi) (hw : Region.wanted oi (yielded L.toArray a.tmps) = true) (hr : ∀ u, R w u → (execOp a.eval oi).run P u = .ok (.value v) u)
    (h : wpE R P L.toArray Q p (a.put oi.dst v) w) : wpE R P L.toArray Q (.q i p) a w := ⟨oi, v, by rw [← nth_eq]; exact hi, .inl ⟨hw, hr⟩, h⟩
/-- Its guard is shut. -/
theorem wpE_qs (hi : nth L i = some oi) (hw : Region.wanted oi (yielded L.toArray a.tmps) = false) (h : wpE R P L.toArray Q p (a.put oi.dst undef) w) : wpE R P L.toArray Q (.q i p) a w :=
  ⟨oi, undef, by rw [← nth_eq]; exact hi, .inr ⟨hw, rfl⟩, h⟩
/-- It alone may come up. -/
theorem wpE_l (hi : nth L i = some oi) (hw : Region.wanted oi (yielded L.toArray a.tmps) = true)
    (h : ∀ K : Act → World → Prop, Shut (∀ a' w', R w w' → wpE R P L.toArray Q p a' w' → K a' w') → oi.wp P a w K Q) : wpE R P L.toArray Q (.l i p) a w :=
  wpOp_step (by rw [← nth_eq]; exact hi) (fun K hK => by rw [if_pos hw]; exact h K (fun a' w' hr hp => hK a' w' ⟨hr, hp⟩))
theorem wpE_ls (hR : R w w) (hi : nth L i = some oi) (hw : Region.wanted oi (yielded L.toArray a.tmps) = false)
    (h : wpE R P L.toArray Q p (a.put oi.dst undef) w) : wpE R P L.toArray Q (.l i p) a w :=
  wpOp_step (by rw [← nth_eq]; exact hi) (fun K hK => by rw [if_neg (by rw [hw]; exact Bool.false_ne_true)]; exact hK _ _ ⟨hR, h⟩)
theorem wpE_b (hi : nth L i = some oi) (hw : Region.wanted oi (yielded L.toArray a.tmps) = true)
    (h : ∀ K : Act → World → Prop, Shut (∀ a' w', wpE R P L.toArray Q p a' w' → K a' w') → oi.wp P a w K Q) : wpE R P L.toArray Q (.b i p) a w :=
  wpOp_step (by rw [← nth_eq]; exact hi) (fun K hK => by rw [if_pos hw]; exact h K (fun a' w' hp => hK a' w' hp))
theorem wpE_br {m : Plan} (hi : nth L i = some oi) (hw : Region.wanted oi (yielded L.toArray a.tmps) = true)
    (h : ∀ K : Act → World → Prop, Shut (∀ a' w', R w w' → wpE R P L.toArray Q p a' w' → K a' w') → oi.wp P a w K Q) (hm : wpE R P L.toArray Q m a w) : wpE R P L.toArray Q (.br i p m) a w :=
  ⟨wpOp_step (by rw [← nth_eq]; exact hi) (fun K hK => by rw [if_pos hw]; exact h K (fun a' w' hr hp => hK a' w' ⟨hr, hp⟩)), hm⟩
theorem wpE_done {ops : Array Oper} (h : Q .normal a w) : wpE R P ops (NoPan Q) .done a w := h
end

end
end Go.Proofs.Ytcipcpbjkcpgdaa
