/- A spot's four rows of words, as one fact. -/
import Derived.Test.YtgjjalnmigdjgaaGreatU1
namespace Go.Proofs.YtgjjalnmigdjgaaGreat
set_option linter.unusedVariables false
open Go Go.RowKit
def Sp4 (w : World) (a : Option Addr) (n c : Nat) (d : Option Addr) (m k : Nat) (a' : Option Addr) (n' c' : Nat) (d' : Option Addr) (m' k' : Nat) (x y : Rat) : Prop :=
  Nc w a n c x.num.natAbs ∧ Nc w d m k x.den ∧ Nc w a' n' c' y.num.natAbs ∧ Nc w d' m' k' y.den
theorem Sp4.ext {w u : World} {a : Option Addr} {n c : Nat} {d : Option Addr} {m k : Nat} {a' : Option Addr} {n' c' : Nat} {d' : Option Addr} {m' k' : Nat} {x y : Rat} (h : Sp4 w a n c d m k a' n' c' d' m' k' x y) (he : Ext w u) : Sp4 u a n c d m k a' n' c' d' m' k' x y :=
  ⟨h.1.ext he, h.2.1.ext he, h.2.2.1.ext he, h.2.2.2.ext he⟩
theorem Sp4.but {w u : World} {a : Option Addr} {n c : Nat} {d : Option Addr} {m k : Nat} {a' : Option Addr} {n' c' : Nat} {d' : Option Addr} {m' k' : Nat} {x y : Rat} {g : Nat} {cs : Array Value} (h : Sp4 w a n c d m k a' n' c' d' m' k' x y) (hb : Bl w g cs) (hcs : ∀ (j : Nat) (z : Int), cs[j]? ≠ some (Value.int .u32 z)) (hu : But w u g) : Sp4 u a n c d m k a' n' c' d' m' k' x y :=
  ⟨h.1.but hb hcs hu, h.2.1.but hb hcs hu, h.2.2.1.but hb hcs hu, h.2.2.2.but hb hcs hu⟩
end Go.Proofs.YtgjjalnmigdjgaaGreat
