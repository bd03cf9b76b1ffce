/- TurnTurns: from the arguments' words to the walk. -/
import Derived.Test.YtgjjalnmigdjgaaGreatU13
import Derived.Test.YtgjjalnmigdjgaaGreatM7
namespace Go.Proofs.YtgjjalnmigdjgaaGreat
set_option linter.unusedVariables false
open Go Go.RowKit
theorem fq_lift {w : World} {b : Bool} {a d : Option Addr} {n c m k : Nat} {l e : List Nat} (hs : Sl w a n c (ints .u32 l)) (hl : Ws l) (hn : n ≤ 1048576) (ht : Sl w d m k (ints .u32 e)) (he : Ws e) (hm : m ≤ 1048576) : Fq w b a n c d m k (mkRat (wz b (val B32 l)) (val B32 e)) 1048576 := by
  obtain ⟨hw, hd⟩ := wh_of (neg := b) hs hl (by omega)
  have hu : Nu w d m k (val B32 e) := ⟨⟨e, ht, he, rfl⟩, by omega⟩
  exact ⟨_, _, hw, hu, by omega, by omega, by have := hu.dl; omega, rfl⟩
theorem tt_lift (sa : Option Addr) (sn sc : Nat) (l : List Sg) (rule : Int) (out : Bool) (g : Bool) (a : Option Addr) (n c : Nat) (x : List Nat) (d : Option Addr) (m k : Nat) (e : List Nat) (g' : Bool) (a' : Option Addr) (n' c' : Nat) (x' : List Nat) (d' : Option Addr) (m' k' : Nat) (e' : List Nat) (kk : Int) (w : World) {B : Nat} (h : SlG w sa sn sc l) (hsn : sn ≤ 4194304)
    (hx : Sl w a n c (ints .u32 x) ∧ (∀ y ∈ x, (Lit.int .u32 (y : Int)).wf = true) ∧ n ≤ B ∧ Sl w d m k (ints .u32 e) ∧ (∀ y ∈ e, (Lit.int .u32 (y : Int)).wf = true) ∧ m ≤ B)
    (hy : Sl w a' n' c' (ints .u32 x') ∧ (∀ y ∈ x', (Lit.int .u32 (y : Int)).wf = true) ∧ n' ≤ B ∧ Sl w d' m' k' (ints .u32 e') ∧ (∀ y ∈ e', (Lit.int .u32 (y : Int)).wf = true) ∧ m' ≤ B) (hB : B ≤ 1048576) (k1 : -9223372036854775808 ≤ kk) (k2 : kk ≤ 9223372036854775807) :
    Calls Tryz.prog 3 #[.agg #[.slice sa sn sc, .int .i64 rule, .bool out], .agg #[.bool g, .slice a n c, .slice d m k, .bool g', .slice a' n' c', .slice d' m' k'], .int .i64 kk] w fun e w' => e = .returned (.bool true) ∧ Ext w w' := by
  obtain ⟨h1, h2, h3, h4, h5, h6⟩ := hx
  obtain ⟨i1, i2, i3, i4, i5, i6⟩ := hy
  have ws : ∀ {z : List Nat}, (∀ y ∈ z, (Lit.int .u32 (y : Int)).wf = true) → Ws z := fun hz y hy => wf_u32' (hz y hy)
  exact tt_any sa sn sc l rule out kk w r19_lives h (fq_lift h1 (ws h2) (by omega) h4 (ws h5) (by omega)) (fq_lift i1 (ws i2) (by omega) i4 (ws i5) (by omega)) (by omega) (by omega) hsn k1 k2
end Go.Proofs.YtgjjalnmigdjgaaGreat
