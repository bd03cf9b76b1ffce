/-
  No cell of these rows narrows 'for every input' (looked for: loops, veiled, ifaces, maps, wideKeys, modest, calm, conditions, laid).
  DERIVED. THE GIVEN ROWS OF THIS SEAT. 2 by the template 'for every input the law returns true; each argument reads behind the call as it read before'; 0 by the template 'total and deterministic' (their statements: YtmibjfkpchncgaaTotals.lean).
  GIVEN WITH THE SEED: the statements are not yours to turn. If you find one false, say at which input.
  Laid BY PROGRAM, IN A SANDBOX (cutbox-rows.mjs): the forced cells as the released guide's own fill.sh prints them over the translation 9b246f87d6be52a6… (all of the seat's roots in one cut). By AI agents, Wed Nov 11 2026. No macro, syntax, notation, axiom, sorry.
-/
import Derived.Test.YtmibjfkpchncgaaChecked
import GoSem.Claim
import GoSem.ClaimJoined
import GoSem.ClaimMapViews
import Derived.JoinedTies
import Derived.KernelRfl
namespace Go.Proofs.Ytmibjfkpchncgaa
/- THE CELL 'sum', in the pinned program and in every row, IS THE sha256 OF THE DUMP (.gsa) THAT YtmibjfkpchncgaaProg.lean LOADS. Nothing in Lean hashes anything: it is a label: what it is worth is what the hold of that sum in a sandbox is worth. -/
noncomputable def Try.pinned : Pinned := { name := "ytmibjfkpchncgaa", sum := "9b246f87d6be52a6356f3c4699a889daef9008e241daf4c0b90ed884be9d048b", checked := Try.checked }
namespace Rows
def none {H : Type} : Left H := { results := [], args := [] }

/-- 'frisketlaw28.TintRises': WHATEVER THE INPUT: true; the input reads as it did. -/
def tintRisesSpec : ChangeSpec := { name := "tintRises", fn := fun _ => fun
  | [d1, d2, d3] => { results := [.lit (.bool true)], args := [d1, d2, d3] }
  | _ => none }
def tintRisesRow : OpenClaim := { program := "ytmibjfkpchncgaa", sum := "9b246f87d6be52a6356f3c4699a889daef9008e241daf4c0b90ed884be9d048b", func := "frisket/frisketlaw28.TintRises", spec := "tintRises", unfollowed := true, recurses := true, apart := false }
def TintRisesSaid : Prop := tintRisesRow.holds Try.pinned (OpenSpec.ofChange tintRisesSpec)

/-- ITS FALSE NEIGHBOUR: 'it returns false'. Refute it at one input. -/
def tintRisesWrong : ChangeSpec := { name := "tintRises", fn := fun _ => fun
  | [d1, d2, d3] => { results := [.lit (.bool false)], args := [d1, d2, d3] }
  | _ => none }
def TintRisesWrongFalsely : Prop := tintRisesRow.holds Try.pinned (OpenSpec.ofChange tintRisesWrong)

/-- 'frisketlaw28.TintUsed': WHATEVER THE INPUT: true; the input reads as it did. -/
def tintUsedSpec : ChangeSpec := { name := "tintUsed", fn := fun _ => fun
  | [d1, d2] => { results := [.lit (.bool true)], args := [d1, d2] }
  | _ => none }
def tintUsedRow : OpenClaim := { program := "ytmibjfkpchncgaa", sum := "9b246f87d6be52a6356f3c4699a889daef9008e241daf4c0b90ed884be9d048b", func := "frisket/frisketlaw28.TintUsed", spec := "tintUsed", unfollowed := true, recurses := true, apart := false }
def TintUsedSaid : Prop := tintUsedRow.holds Try.pinned (OpenSpec.ofChange tintUsedSpec)

/-- ITS FALSE NEIGHBOUR: 'it returns false'. Refute it at one input. -/
def tintUsedWrong : ChangeSpec := { name := "tintUsed", fn := fun _ => fun
  | [d1, d2] => { results := [.lit (.bool false)], args := [d1, d2] }
  | _ => none }
def TintUsedWrongFalsely : Prop := tintUsedRow.holds Try.pinned (OpenSpec.ofChange tintUsedWrong)

/- THE SECOND FORM. 'bulk': how many values and letters a reading holds, each counted each time it is reached (what is shared counts as often as it is met; a slice's spare places count too). A statement '..UptoSaid' is the law's where the arguments, and the package variables that the reading takes, are together of bulk at most 1048576: NARROWER than '..Said'. Prove '..Said' where nothing that the law and all that it calls make is longer than what came in: it says more and counts as full. Else prove '..UptoSaid'. A law counts once. -/
mutual
def uptoBulk {H : Type} : DataW H → Nat
  | .lit (.string bytes) => bytes.length + 1
  | .lit _ => 1
  | .nil => 1
  | .ptr d => uptoBulk d + 1
  | .slice elems spare => uptoBulkAll elems + uptoBulkAll spare + 1
  | .agg parts => uptoBulkAll parts + 1
  | .iface _ d => uptoBulk d + 1
  | .map entries => uptoBulkEntries entries + 1
  | .held _ => 1
def uptoBulkAll {H : Type} : List (DataW H) → Nat
  | [] => 0
  | d :: r => uptoBulk d + uptoBulkAll r
def uptoBulkEntries {H : Type} : List (Lit × DataW H) → Nat
  | [] => 0
  | x :: r => uptoBulkEntry x + uptoBulkEntries r
def uptoBulkEntry {H : Type} : Lit × DataW H → Nat
  | (.string bytes, d) => bytes.length + uptoBulk d + 1
  | (_, d) => uptoBulk d + 1
 end
def uptoSmall : (H : Type) → List (DataW H) → Bool := fun _ ds => decide (uptoBulkAll ds ≤ 1048576)
def OpenSpec.upto (s : _root_.Go.ChangeSpec) : _root_.Go.OpenSpec := { _root_.Go.OpenSpec.ofChange s with cond := some uptoSmall }

/-- 'frisketlaw28.TintRises', WHERE WHAT IT READS IS OF BULK AT MOST 1048576: true; the input reads as it did. -/
def tintRisesUptoRow : OpenClaim := { program := "ytmibjfkpchncgaa", sum := "9b246f87d6be52a6356f3c4699a889daef9008e241daf4c0b90ed884be9d048b", func := "frisket/frisketlaw28.TintRises", spec := "tintRises", unfollowed := true, recurses := true, apart := false, narrowed := true }
def TintRisesUptoSaid : Prop := tintRisesUptoRow.holds Try.pinned (OpenSpec.upto tintRisesSpec)

/-- 'frisketlaw28.TintUsed', WHERE WHAT IT READS IS OF BULK AT MOST 1048576: true; the input reads as it did. -/
def tintUsedUptoRow : OpenClaim := { program := "ytmibjfkpchncgaa", sum := "9b246f87d6be52a6356f3c4699a889daef9008e241daf4c0b90ed884be9d048b", func := "frisket/frisketlaw28.TintUsed", spec := "tintUsed", unfollowed := true, recurses := true, apart := false, narrowed := true }
def TintUsedUptoSaid : Prop := tintUsedUptoRow.holds Try.pinned (OpenSpec.upto tintUsedSpec)

end Rows
end Go.Proofs.Ytmibjfkpchncgaa
