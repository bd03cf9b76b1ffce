/-
  No cell of these rows narrows 'for every input' (looked for: loops, veiled, ifaces, maps, wideKeys, modest, calm, conditions, laid).
  DERIVED. THE GIVEN ROWS OF THIS SEAT. 4 by the template 'for every input the law returns true; each argument reads behind the call as it read before'; 0 by the template 'total and deterministic' (their statements: YtgjjalnmigdjgaaGreatTotals.lean).
  GIVEN WITH THE SEED: the statements are not yours to turn. If you find one false, say at which input.
  Laid BY PROGRAM, IN A SANDBOX (cutbox-rows.mjs): the forced cells as the released guide's own fill.sh prints them over the translation f09cdf0a4e9c3eb9… (all of the seat's roots in one cut). By AI agents, Wed Nov 11 2026. No macro, syntax, notation, axiom, sorry.
-/
import Derived.Test.YtgjjalnmigdjgaaGreatChecked
import GoSem.Claim
import GoSem.ClaimJoined
import GoSem.ClaimMapViews
import Derived.JoinedTies
import Derived.KernelRfl
namespace Go.Proofs.YtgjjalnmigdjgaaGreat
/- THE CELL 'sum', in the pinned program and in every row, IS THE sha256 OF THE DUMP (.gsa) THAT YtgjjalnmigdjgaaGreatProg.lean LOADS. Nothing in Lean hashes anything: it is a label: what it is worth is what the hold of that sum in a sandbox is worth. -/
noncomputable def Tryz.pinned : Pinned := { name := "ytgjjalnmigdjgaagreat", sum := "f09cdf0a4e9c3eb9ef28c1daee863d7c8b7836d79c3c275e7aaced1ae3f2ae5d", checked := Tryz.checked }
namespace Rows
def none {H : Type} : Left H := { results := [], args := [] }

/-- 'frisketlaw19.TurnTurns': WHATEVER THE INPUT: true; the input reads as it did. -/
def turnTurnsSpec : ChangeSpec := { name := "turnTurns", fn := fun _ => fun
  | [d1, d2, d3] => { results := [.lit (.bool true)], args := [d1, d2, d3] }
  | _ => none }
def turnTurnsRow : OpenClaim := { program := "ytgjjalnmigdjgaagreat", sum := "f09cdf0a4e9c3eb9ef28c1daee863d7c8b7836d79c3c275e7aaced1ae3f2ae5d", func := "frisket/frisketlaw19.TurnTurns", spec := "turnTurns", unfollowed := true, recurses := true, apart := false }
def TurnTurnsSaid : Prop := turnTurnsRow.holds Tryz.pinned (OpenSpec.ofChange turnTurnsSpec)

/-- ITS FALSE NEIGHBOUR: 'it returns false'. Refute it at one input. -/
def turnTurnsWrong : ChangeSpec := { name := "turnTurns", fn := fun _ => fun
  | [d1, d2, d3] => { results := [.lit (.bool false)], args := [d1, d2, d3] }
  | _ => none }
def TurnTurnsWrongFalsely : Prop := turnTurnsRow.holds Tryz.pinned (OpenSpec.ofChange turnTurnsWrong)

/-- 'frisketlaw19.TurnBesides': WHATEVER THE INPUT: true; the input reads as it did. -/
def turnBesidesSpec : ChangeSpec := { name := "turnBesides", fn := fun _ => fun
  | [d1, d2] => { results := [.lit (.bool true)], args := [d1, d2] }
  | _ => none }
def turnBesidesRow : OpenClaim := { program := "ytgjjalnmigdjgaagreat", sum := "f09cdf0a4e9c3eb9ef28c1daee863d7c8b7836d79c3c275e7aaced1ae3f2ae5d", func := "frisket/frisketlaw19.TurnBesides", spec := "turnBesides", unfollowed := true, recurses := true, apart := false }
def TurnBesidesSaid : Prop := turnBesidesRow.holds Tryz.pinned (OpenSpec.ofChange turnBesidesSpec)

/-- ITS FALSE NEIGHBOUR: 'it returns false'. Refute it at one input. -/
def turnBesidesWrong : ChangeSpec := { name := "turnBesides", fn := fun _ => fun
  | [d1, d2] => { results := [.lit (.bool false)], args := [d1, d2] }
  | _ => none }
def TurnBesidesWrongFalsely : Prop := turnBesidesRow.holds Tryz.pinned (OpenSpec.ofChange turnBesidesWrong)

/-- 'frisketlaw19.TurnSteps': WHATEVER THE INPUT: true; the input reads as it did. -/
def turnStepsSpec : ChangeSpec := { name := "turnSteps", fn := fun _ => fun
  | [d1, d2] => { results := [.lit (.bool true)], args := [d1, d2] }
  | _ => none }
def turnStepsRow : OpenClaim := { program := "ytgjjalnmigdjgaagreat", sum := "f09cdf0a4e9c3eb9ef28c1daee863d7c8b7836d79c3c275e7aaced1ae3f2ae5d", func := "frisket/frisketlaw19.TurnSteps", spec := "turnSteps", unfollowed := true, recurses := true, apart := false }
def TurnStepsSaid : Prop := turnStepsRow.holds Tryz.pinned (OpenSpec.ofChange turnStepsSpec)

/-- ITS FALSE NEIGHBOUR: 'it returns false'. Refute it at one input. -/
def turnStepsWrong : ChangeSpec := { name := "turnSteps", fn := fun _ => fun
  | [d1, d2] => { results := [.lit (.bool false)], args := [d1, d2] }
  | _ => none }
def TurnStepsWrongFalsely : Prop := turnStepsRow.holds Tryz.pinned (OpenSpec.ofChange turnStepsWrong)

/-- 'frisketlaw29.TexelColours': WHATEVER THE INPUT: true; the input reads as it did. -/
def texelColoursSpec : ChangeSpec := { name := "texelColours", fn := fun _ => fun
  | [d1, d2, d3] => { results := [.lit (.bool true)], args := [d1, d2, d3] }
  | _ => none }
def texelColoursRow : OpenClaim := { program := "ytgjjalnmigdjgaagreat", sum := "f09cdf0a4e9c3eb9ef28c1daee863d7c8b7836d79c3c275e7aaced1ae3f2ae5d", func := "frisket/frisketlaw29.TexelColours", spec := "texelColours", unfollowed := true, recurses := true, apart := false }
def TexelColoursSaid : Prop := texelColoursRow.holds Tryz.pinned (OpenSpec.ofChange texelColoursSpec)

/-- ITS FALSE NEIGHBOUR: 'it returns false'. Refute it at one input. -/
def texelColoursWrong : ChangeSpec := { name := "texelColours", fn := fun _ => fun
  | [d1, d2, d3] => { results := [.lit (.bool false)], args := [d1, d2, d3] }
  | _ => none }
def TexelColoursWrongFalsely : Prop := texelColoursRow.holds Tryz.pinned (OpenSpec.ofChange texelColoursWrong)

/- THE SECOND FORM. 'bulk': how many values and letters a reading holds, each counted each time it is reached (what is shared counts as often as it is met; a slice's spare places count too). A statement '..UptoSaid' is the law's where the arguments, and the package variables that the reading takes, are together of bulk at most 1048576: NARROWER than '..Said'. Prove '..Said' where nothing that the law and all that it calls make is longer than what came in: it says more and counts as full. Else prove '..UptoSaid'. A law counts once. -/
mutual
def uptoBulk {H : Type} : DataW H → Nat
  | .lit (.string bytes) => bytes.length + 1
  | .lit _ => 1
  | .nil => 1
  | .ptr d => uptoBulk d + 1
  | .slice elems spare => uptoBulkAll elems + uptoBulkAll spare + 1
  | .agg parts => uptoBulkAll parts + 1
  | .iface _ d => uptoBulk d + 1
  | .map entries => uptoBulkEntries entries + 1
  | .held _ => 1
def uptoBulkAll {H : Type} : List (DataW H) → Nat
  | [] => 0
  | d :: r => uptoBulk d + uptoBulkAll r
def uptoBulkEntries {H : Type} : List (Lit × DataW H) → Nat
  | [] => 0
  | x :: r => uptoBulkEntry x + uptoBulkEntries r
def uptoBulkEntry {H : Type} : Lit × DataW H → Nat
  | (.string bytes, d) => bytes.length + uptoBulk d + 1
  | (_, d) => uptoBulk d + 1
 end
def uptoSmall : (H : Type) → List (DataW H) → Bool := fun _ ds => decide (uptoBulkAll ds ≤ 1048576)
def OpenSpec.upto (s : _root_.Go.ChangeSpec) : _root_.Go.OpenSpec := { _root_.Go.OpenSpec.ofChange s with cond := some uptoSmall }

/-- 'frisketlaw19.TurnTurns', WHERE WHAT IT READS IS OF BULK AT MOST 1048576: true; the input reads as it did. -/
def turnTurnsUptoRow : OpenClaim := { program := "ytgjjalnmigdjgaagreat", sum := "f09cdf0a4e9c3eb9ef28c1daee863d7c8b7836d79c3c275e7aaced1ae3f2ae5d", func := "frisket/frisketlaw19.TurnTurns", spec := "turnTurns", unfollowed := true, recurses := true, apart := false, narrowed := true }
def TurnTurnsUptoSaid : Prop := turnTurnsUptoRow.holds Tryz.pinned (OpenSpec.upto turnTurnsSpec)

/-- 'frisketlaw19.TurnBesides', WHERE WHAT IT READS IS OF BULK AT MOST 1048576: true; the input reads as it did. -/
def turnBesidesUptoRow : OpenClaim := { program := "ytgjjalnmigdjgaagreat", sum := "f09cdf0a4e9c3eb9ef28c1daee863d7c8b7836d79c3c275e7aaced1ae3f2ae5d", func := "frisket/frisketlaw19.TurnBesides", spec := "turnBesides", unfollowed := true, recurses := true, apart := false, narrowed := true }
def TurnBesidesUptoSaid : Prop := turnBesidesUptoRow.holds Tryz.pinned (OpenSpec.upto turnBesidesSpec)

/-- 'frisketlaw19.TurnSteps', WHERE WHAT IT READS IS OF BULK AT MOST 1048576: true; the input reads as it did. -/
def turnStepsUptoRow : OpenClaim := { program := "ytgjjalnmigdjgaagreat", sum := "f09cdf0a4e9c3eb9ef28c1daee863d7c8b7836d79c3c275e7aaced1ae3f2ae5d", func := "frisket/frisketlaw19.TurnSteps", spec := "turnSteps", unfollowed := true, recurses := true, apart := false, narrowed := true }
def TurnStepsUptoSaid : Prop := turnStepsUptoRow.holds Tryz.pinned (OpenSpec.upto turnStepsSpec)

/-- 'frisketlaw29.TexelColours', WHERE WHAT IT READS IS OF BULK AT MOST 1048576: true; the input reads as it did. -/
def texelColoursUptoRow : OpenClaim := { program := "ytgjjalnmigdjgaagreat", sum := "f09cdf0a4e9c3eb9ef28c1daee863d7c8b7836d79c3c275e7aaced1ae3f2ae5d", func := "frisket/frisketlaw29.TexelColours", spec := "texelColours", unfollowed := true, recurses := true, apart := false, narrowed := true }
def TexelColoursUptoSaid : Prop := texelColoursUptoRow.holds Tryz.pinned (OpenSpec.upto texelColoursSpec)

end Rows
end Go.Proofs.YtgjjalnmigdjgaaGreat
