/- Ranging over an iterator that writes blocks of its own between two rounds. -/
import Derived.Test.YtlhaepcnhkaclaaM1
import Derived.RangeFuncNested
import Derived.RangeFuncCalls
import Derived.RangeFuncLeaves
import Derived.RangeFuncBox
namespace Go.Proofs.Ytlhaepcnhkaclaa
set_option linter.unusedVariables false
set_option linter.unusedSimpArgs false
open Go Go.RowKit

/-- The iterator gives the elements of L, one by one, to whatever body keeps what the iterator asks (Kp), whatever is held between two rounds (J) as long as the iterator's own steps (It) leave it. -/
def SeqL {α : Type} (F : Fence) (n : Nat) (P : Program) (gf : Nat) (lb : Array Value) (encs : α → Array Value) (Kp It : World → World → Prop) (L : List α) (w : World) : Prop :=
  ∀ (l : Nat) (J Jx : List α → World → Prop) (W : World), Ext w W → (∀ s A B, J s A → It A B → J s B) → (∀ s A B, Jx s A → It A B → Jx s B) →
    (∀ pre x suf W1, pre ++ x :: suf = L → J pre W1 → YieldAt F (n - 1) P l (encs x) W1 fun e W' =>
      (e = .returned (.bool true) ∧ J (pre ++ [x]) W' ∧ Kp W1 W') ∨ (e = .returned (.bool false) ∧ Jx (pre ++ [x]) W')) →
    J [] W →
    CallsIn F n P gf (#[.func (.yield l) #[] #[]] ++ lb) W fun e W' => (∃ v, e = .returned v) ∧ (J L W' ∨ ∃ pre, Jx pre W')

theorem old_alloc {W : World} {k : Nat} {o o' : Obj} (h : W.heap[k]? = some o) : (W.alloc o').heap[k]? = some o :=
  (Below.heap_alloc W o' k (Array.getElem?_eq_some_iff.1 h).1).trans h

theorem wpIn_rangeL {F : Fence} {n : Nat} {P : Program} {α : Type} {g : Operand} {ps : Array Tmp} {assign body : Code} {Q : Exit → Act → World → Prop} {a : Act} {w : World}
    (hro : F.round = none) (h1 : 1 ≤ n) {gf : Nat} {lb : Array Value} (hg : a.eval g = .func (.func gf) #[] lb) (hFg : F.fn gf) (eg : ∀ args w, (callFunc gf args).run P w = .ok (.enter gf args) w)
    {encs : α → Array Value} {Kp It : World → World → Prop} {L : List α} (hseq : SeqL F (n - 1) P gf lb encs Kp It L w)
    (hKt : ∀ {A B C : World}, Kp A B → Kp B C → Kp A C) (hKb : ∀ (W : World) (l : Nat) (o o' : Obj), w.heap.size ≤ l → W.heap[l]? = some o → o.isCells = false → Kp W (W.putObj l o'))
    (hIt : ∀ (A B : World) (k : Nat) (o : Obj), It A B → w.heap.size ≤ k → A.heap[k]? = some o → o.isCells = false → B.heap[k]? = some o) (hps : ∀ x, (encs x).size = ps.size)
    (I : List α → World → Prop) (Ix : Code → List α → World → Prop) (hI : OwnFrom w.heap.size I) (hIx : ∀ c, OwnFrom w.heap.size (Ix c)) (hII : ∀ s A B, I s A → It A B → I s B) (hIX : ∀ c s A B, Ix c s A → It A B → Ix c s B) (h0 : I [] w)
    (Ax : α → Act → World → Prop) (hAx : ∀ x a', OwnFrom w.heap.size (fun (_ : Unit) W => Ax x a' W))
    (hassign : ∀ (l : Nat) (pre : List α) (x : α) (suf : List α) (W : World) (K : Act → World → Prop), pre ++ x :: suf = L → I pre W → (∀ a' W', KeepsFrom w.heap.size W W' → Kp W W' → I pre W' → Ax x a' W' → K a' W') →
      assign.wpIn (F.inRound l) (n - 1 - 1) P (Exit.then K (fun _ _ _ => False)) { tmps := (ps.zip (encs x)).foldl (fun t (p, v) => t.setIfInBounds p v) a.tmps, defers := [] } W)
    (hbody : ∀ (l : Nat) (pre : List α) (x : α) (suf : List α) (a' : Act) (W : World), pre ++ x :: suf = L → w.heap.size ≤ l → I pre W → Ax x a' W → body.wpIn (F.inRound l) (n - 1 - 1) P (ownPostG w.heap.size Kp I Ix (pre ++ [x]) W) a' W)
    (hdone : ∀ (D : Nat) (W : World), w.heap.size ≤ D → I L W → W.heap[D]? = some (.deferred (some [])) → Q .normal { a with defers := { target := .collected D, args := #[] } :: a.defers } W)
    (hstop : ∀ (D : Nat) (c : Code) (pre : List α) (W : World), w.heap.size ≤ D → Ix c pre W → W.heap[D]? = some (.deferred (some [])) → c.wpIn F n P Q { a with defers := { target := .collected D, args := #[] } :: a.defers } W) :
    (Code.rangeFunc g ps assign body).wpIn F n P Q a w := by
  refine wpIn_rangeFunc fun fn hfn => ?_
  rw [hro]
  -- the loop's record in each of its states
  let R : LoopState → Option Code → Loop := fun st pe => { state := st, pending := pe, fn, tmps := a.tmps, params := ps, assign, body, defers := w.heap.size }
  obtain ⟨W1, hW1⟩ : ∃ W1, (w.alloc (.deferred (some []))).alloc (.loop (R .ready none)) = W1 := ⟨_, rfl⟩
  have hN0 : W1.heap[w.heap.size + 1]? = some (.loop (R .ready none)) := by
    have := World.alloc_heap_new (w.alloc (.deferred (some []))) (.loop (R .ready none))
    rwa [World.size_alloc, hW1] at this
  have hN1 : W1.heap[w.heap.size]? = some (.deferred (some [])) := by rw [← hW1]; exact old_alloc (World.alloc_heap_new w _)
  have hN2 : I [] W1 := by rw [← hW1]; exact hI.alloc _ (hI.alloc _ h0)
  have hN3 : Ext w W1 := by rw [← hW1]; exact ((Ext.refl _).alloc _).alloc _
  refine ⟨w.heap.size + 1, [{ target := .collected w.heap.size, args := #[] }], W1, { target := .fn (.func gf) lb, args := #[.func (.yield (w.heap.size + 1)) #[] #[]] }, W1, gf,
    #[.func (.yield (w.heap.size + 1)) #[] #[]] ++ lb, W1, ?_, ?_, ?_, ?_, fun _ => h1, ?_⟩
  · rw [← hW1]; exact run_enterLoop_outer _ _ _ _ _
  · simp only [resolve, hg]
    simp [go_sem]
  · intro f' hf'
    simp [Target.leads] at hf'
    subst hf'
    exact hFg
  · simp [invoke, go_sem, eg]
  refine (hseq (w.heap.size + 1) (fun pre W => I pre W ∧ W.heap[w.heap.size + 1]? = some (.loop (R .ready none)) ∧ W.heap[w.heap.size]? = some (.deferred (some [])))
    (fun pre W => ∃ c, Ix c pre W ∧ W.heap[w.heap.size + 1]? = some (.loop (R .done (some c))) ∧ W.heap[w.heap.size]? = some (.deferred (some []))) W1 hN3
    (fun s A B hs hab => ⟨hII s A B hs.1 hab, hIt A B _ _ hab (Nat.le_succ _) hs.2.1 rfl, hIt A B _ _ hab (Nat.le_refl _) hs.2.2 rfl⟩)
    (fun s A B hs hab => by
      obtain ⟨c, hc, hl, hk⟩ := hs
      exact ⟨c, hIX c s A B hc hab, hIt A B _ _ hab (Nat.le_succ _) hl rfl, hIt A B _ _ hab (Nat.le_refl _) hk rfl⟩) ?_ ⟨hN2, hN0, hN1⟩).mono ?_
  · -- a round
    rintro pre x suf W hL ⟨hi, hl, hk⟩
    refine ⟨fn, _, assign, body, run_yield (P := P) (args := encs x) hl (hps x), roundIn_of_wpIn hfn (hassign _ pre x suf W _ hL hi ?_)⟩
    intro a' V hkf hkp hi' hax
    have hlV := hkf.same _ _ (Nat.le_succ _) hl rfl
    have hkV := hkf.same _ _ (Nat.le_refl _) hk rfl
    have hltV : w.heap.size + 1 < V.heap.size := (Array.getElem?_eq_some_iff.1 hlV).1
    refine ⟨_, run_beginRound hlV rfl, ?_⟩
    obtain ⟨V1, hV1⟩ : ∃ V1, V1 = V.putObj (w.heap.size + 1) (.loop { R .ready none with state := .busy }) := ⟨_, rfl⟩
    have hl1 : V1.heap[w.heap.size + 1]? = some (.loop { R .ready none with state := .busy }) := by rw [hV1]; exact World.putObj_heap_same hltV
    have hk1 : V1.heap[w.heap.size]? = some (.deferred (some [])) := by rw [hV1]; exact (World.putObj_heap_other (by omega)).trans hkV
    have hp1 : Kp V V1 := by rw [hV1]; exact hKb _ _ _ _ (Nat.le_succ _) hlV rfl
    have hi1 : I pre V1 := by rw [hV1]; exact hI.putObj _ hi' (Nat.le_succ _) hlV rfl
    have ha1 : Ax x a' V1 := by rw [hV1]; exact (hAx x a').putObj (s := ()) _ hax (Nat.le_succ _) hlV rfl
    rw [← hV1]
    refine wpIn_mono (hbody _ pre x suf a' V1 hL (Nat.le_succ _) hi1 ha1) ?_
    -- what the end of a round leaves
    have fin : ∀ (jump : Option Code) (V2 : World), KeepsFrom w.heap.size V1 V2 → (Instr.endRound (w.heap.size + 1) jump).run P V2 = .ok (.bool jump.isNone) (V2.putObj (w.heap.size + 1) (.loop (R (if jump.isNone then .ready else .done) jump))) ∧
        V2.heap[w.heap.size + 1]? = some (.loop { R .ready none with state := .busy }) ∧
        (V2.putObj (w.heap.size + 1) (.loop (R (if jump.isNone then .ready else .done) jump))).heap[w.heap.size + 1]? = some (.loop (R (if jump.isNone then .ready else .done) jump)) ∧
        (V2.putObj (w.heap.size + 1) (.loop (R (if jump.isNone then .ready else .done) jump))).heap[w.heap.size]? = some (.deferred (some [])) := fun jump V2 h2 => by
      have hl2 := h2.same _ _ (Nat.le_succ _) hl1 rfl
      exact ⟨run_endRound (P := P) jump hl2, hl2, World.putObj_heap_same (Array.getElem?_eq_some_iff.1 hl2).1, (World.putObj_heap_other (by omega)).trans (h2.same _ _ (Nat.le_refl _) hk1 rfl)⟩
    rintro e a3 V2 hp
    cases e with
    | normal =>
      obtain ⟨h2, h3, h4⟩ := hp
      obtain ⟨r1, r2, r3, r4⟩ := fin none V2 h2
      exact ⟨_, _, r1, .inl ⟨rfl, ⟨hI.putObj _ h4 (Nat.le_succ _) r2 rfl, r3, r4⟩, hKt hkp (hKt (hKt hp1 h3) (hKb _ _ _ _ (Nat.le_succ _) r2 rfl))⟩⟩
    | ret =>
      obtain ⟨h2, h4⟩ := hp
      obtain ⟨r1, r2, r3, r4⟩ := fin (some .ret) V2 h2
      exact ⟨_, _, r1, .inr ⟨rfl, .ret, (hIx _).putObj _ h4 (Nat.le_succ _) r2 rfl, r3, r4⟩⟩
    | exit id =>
      obtain ⟨h2, h4⟩ := hp
      obtain ⟨r1, r2, r3, r4⟩ := fin (some (.exit id)) V2 h2
      exact ⟨_, _, r1, .inr ⟨rfl, .exit id, (hIx _).putObj _ h4 (Nat.le_succ _) r2 rfl, r3, r4⟩⟩
    | goto t =>
      obtain ⟨h2, h4⟩ := hp
      obtain ⟨r1, r2, r3, r4⟩ := fin (some (.goto t)) V2 h2
      exact ⟨_, _, r1, .inr ⟨rfl, .goto t, (hIx _).putObj _ h4 (Nat.le_succ _) r2 rfl, r3, r4⟩⟩
    | panic ch => exact hp.elim
    | outgrown => exact hp.elim
  · -- behind the iterator
    rintro e W2 ⟨⟨v, rfl⟩, (⟨hi, hl, hk⟩ | ⟨pre, c, hi, hl, hk⟩)⟩
    · exact ⟨none, _, run_endLoop (P := P) hl (by simp [R]), hdone _ _ (Nat.le_refl _) (hI.putObj _ hi (Nat.le_succ _) hl rfl) ((World.putObj_heap_other (by omega)).trans hk)⟩
    · exact ⟨some c, _, run_endLoop (P := P) hl (by simp [R]), hstop _ c pre _ (Nat.le_refl _) ((hIx c).putObj _ hi (Nat.le_succ _) hl rfl) ((World.putObj_heap_other (by omega)).trans hk)⟩

end Go.Proofs.Ytlhaepcnhkaclaa
