/-
  No cell of these rows narrows 'for every input' (looked for: loops, veiled, ifaces, maps, wideKeys, modest, calm, conditions, laid).
  DERIVED. THE GIVEN ROWS OF THIS SEAT. 18 by the template 'for every input the law returns true; each argument reads behind the call as it read before'; 0 by the template 'total and deterministic' (their statements: YtcipcpbjkcpgdaaTotals.lean).
  GIVEN WITH THE SEED: the statements are not yours to turn. If you find one false, say at which input.
  Laid BY PROGRAM, IN A SANDBOX (cutbox-rows.mjs): the forced cells as the released guide's own fill.sh prints them over the translation 5f2293009ce4137e… (all of the seat's roots in one cut). By AI agents, Wed Nov 11 2026. No macro, syntax, notation, axiom, sorry.
-/
import Derived.Test.YtcipcpbjkcpgdaaChecked
import GoSem.Claim
import GoSem.ClaimJoined
import GoSem.ClaimMapViews
import Derived.JoinedTies
import Derived.KernelRfl
namespace Go.Proofs.Ytcipcpbjkcpgdaa
/- THE CELL 'sum', in the pinned program and in every row, IS THE sha256 OF THE DUMP (.gsa) THAT YtcipcpbjkcpgdaaProg.lean LOADS. Nothing in Lean hashes anything: it is a label: what it is worth is what the hold of that sum in a sandbox is worth. -/
noncomputable def Try.pinned : Pinned := { name := "ytcipcpbjkcpgdaa", sum := "5f2293009ce4137eac5d699a65f1e3352e8b5d4cc6e2d9916e3ba23bec52cfb9", checked := Try.checked }
namespace Rows
def none {H : Type} : Left H := { results := [], args := [] }

/-- 'frisketlaw01.NatTexts': WHATEVER THE INPUT: true; the input reads as it did. -/
def natTextsSpec : ChangeSpec := { name := "natTexts", fn := fun _ => fun
  | [d1, d2] => { results := [.lit (.bool true)], args := [d1, d2] }
  | _ => none }
def natTextsRow : OpenClaim := { program := "ytcipcpbjkcpgdaa", sum := "5f2293009ce4137eac5d699a65f1e3352e8b5d4cc6e2d9916e3ba23bec52cfb9", func := "frisket/frisketlaw01.NatTexts", spec := "natTexts", recurses := true, apart := false }
def NatTextsSaid : Prop := natTextsRow.holds Try.pinned (OpenSpec.ofChange natTextsSpec)

/-- ITS FALSE NEIGHBOUR: 'it returns false'. Refute it at one input. -/
def natTextsWrong : ChangeSpec := { name := "natTexts", fn := fun _ => fun
  | [d1, d2] => { results := [.lit (.bool false)], args := [d1, d2] }
  | _ => none }
def NatTextsWrongFalsely : Prop := natTextsRow.holds Try.pinned (OpenSpec.ofChange natTextsWrong)

/-- 'frisketlaw01.NatWords': WHATEVER THE INPUT: true; the input reads as it did. -/
def natWordsSpec : ChangeSpec := { name := "natWords", fn := fun _ => fun
  | [d1, d2, d3] => { results := [.lit (.bool true)], args := [d1, d2, d3] }
  | _ => none }
def natWordsRow : OpenClaim := { program := "ytcipcpbjkcpgdaa", sum := "5f2293009ce4137eac5d699a65f1e3352e8b5d4cc6e2d9916e3ba23bec52cfb9", func := "frisket/frisketlaw01.NatWords", spec := "natWords", apart := false }
def NatWordsSaid : Prop := natWordsRow.holds Try.pinned (OpenSpec.ofChange natWordsSpec)

/-- ITS FALSE NEIGHBOUR: 'it returns false'. Refute it at one input. -/
def natWordsWrong : ChangeSpec := { name := "natWords", fn := fun _ => fun
  | [d1, d2, d3] => { results := [.lit (.bool false)], args := [d1, d2, d3] }
  | _ => none }
def NatWordsWrongFalsely : Prop := natWordsRow.holds Try.pinned (OpenSpec.ofChange natWordsWrong)

/-- 'frisketlaw01.NatSums': WHATEVER THE INPUT: true; the input reads as it did. -/
def natSumsSpec : ChangeSpec := { name := "natSums", fn := fun _ => fun
  | [d1, d2] => { results := [.lit (.bool true)], args := [d1, d2] }
  | _ => none }
def natSumsRow : OpenClaim := { program := "ytcipcpbjkcpgdaa", sum := "5f2293009ce4137eac5d699a65f1e3352e8b5d4cc6e2d9916e3ba23bec52cfb9", func := "frisket/frisketlaw01.NatSums", spec := "natSums", recurses := true, apart := false }
def NatSumsSaid : Prop := natSumsRow.holds Try.pinned (OpenSpec.ofChange natSumsSpec)

/-- ITS FALSE NEIGHBOUR: 'it returns false'. Refute it at one input. -/
def natSumsWrong : ChangeSpec := { name := "natSums", fn := fun _ => fun
  | [d1, d2] => { results := [.lit (.bool false)], args := [d1, d2] }
  | _ => none }
def NatSumsWrongFalsely : Prop := natSumsRow.holds Try.pinned (OpenSpec.ofChange natSumsWrong)

/-- 'frisketlaw01.NatProducts': WHATEVER THE INPUT: true; the input reads as it did. -/
def natProductsSpec : ChangeSpec := { name := "natProducts", fn := fun _ => fun
  | [d1, d2] => { results := [.lit (.bool true)], args := [d1, d2] }
  | _ => none }
def natProductsRow : OpenClaim := { program := "ytcipcpbjkcpgdaa", sum := "5f2293009ce4137eac5d699a65f1e3352e8b5d4cc6e2d9916e3ba23bec52cfb9", func := "frisket/frisketlaw01.NatProducts", spec := "natProducts", apart := false }
def NatProductsSaid : Prop := natProductsRow.holds Try.pinned (OpenSpec.ofChange natProductsSpec)

/-- ITS FALSE NEIGHBOUR: 'it returns false'. Refute it at one input. -/
def natProductsWrong : ChangeSpec := { name := "natProducts", fn := fun _ => fun
  | [d1, d2] => { results := [.lit (.bool false)], args := [d1, d2] }
  | _ => none }
def NatProductsWrongFalsely : Prop := natProductsRow.holds Try.pinned (OpenSpec.ofChange natProductsWrong)

/-- 'frisketlaw01.NatBack': WHATEVER THE INPUT: true; the input reads as it did. -/
def natBackSpec : ChangeSpec := { name := "natBack", fn := fun _ => fun
  | [d1, d2, d3] => { results := [.lit (.bool true)], args := [d1, d2, d3] }
  | _ => none }
def natBackRow : OpenClaim := { program := "ytcipcpbjkcpgdaa", sum := "5f2293009ce4137eac5d699a65f1e3352e8b5d4cc6e2d9916e3ba23bec52cfb9", func := "frisket/frisketlaw01.NatBack", spec := "natBack", recurses := true, apart := false }
def NatBackSaid : Prop := natBackRow.holds Try.pinned (OpenSpec.ofChange natBackSpec)

/-- ITS FALSE NEIGHBOUR: 'it returns false'. Refute it at one input. -/
def natBackWrong : ChangeSpec := { name := "natBack", fn := fun _ => fun
  | [d1, d2, d3] => { results := [.lit (.bool false)], args := [d1, d2, d3] }
  | _ => none }
def NatBackWrongFalsely : Prop := natBackRow.holds Try.pinned (OpenSpec.ofChange natBackWrong)

/-- 'frisketlaw02.WholeDivs': WHATEVER THE INPUT: true; the input reads as it did. -/
def wholeDivsSpec : ChangeSpec := { name := "wholeDivs", fn := fun _ => fun
  | [d1, d2] => { results := [.lit (.bool true)], args := [d1, d2] }
  | _ => none }
def wholeDivsRow : OpenClaim := { program := "ytcipcpbjkcpgdaa", sum := "5f2293009ce4137eac5d699a65f1e3352e8b5d4cc6e2d9916e3ba23bec52cfb9", func := "frisket/frisketlaw02.WholeDivs", spec := "wholeDivs", recurses := true, apart := false }
def WholeDivsSaid : Prop := wholeDivsRow.holds Try.pinned (OpenSpec.ofChange wholeDivsSpec)

/-- ITS FALSE NEIGHBOUR: 'it returns false'. Refute it at one input. -/
def wholeDivsWrong : ChangeSpec := { name := "wholeDivs", fn := fun _ => fun
  | [d1, d2] => { results := [.lit (.bool false)], args := [d1, d2] }
  | _ => none }
def WholeDivsWrongFalsely : Prop := wholeDivsRow.holds Try.pinned (OpenSpec.ofChange wholeDivsWrong)

/-- 'frisketlaw03.RootFactors': WHATEVER THE INPUT: true; the input reads as it did. -/
def rootFactorsSpec : ChangeSpec := { name := "rootFactors", fn := fun _ => fun
  | [d1, d2] => { results := [.lit (.bool true)], args := [d1, d2] }
  | _ => none }
def rootFactorsRow : OpenClaim := { program := "ytcipcpbjkcpgdaa", sum := "5f2293009ce4137eac5d699a65f1e3352e8b5d4cc6e2d9916e3ba23bec52cfb9", func := "frisket/frisketlaw03.RootFactors", spec := "rootFactors", recurses := true, apart := false }
def RootFactorsSaid : Prop := rootFactorsRow.holds Try.pinned (OpenSpec.ofChange rootFactorsSpec)

/-- ITS FALSE NEIGHBOUR: 'it returns false'. Refute it at one input. -/
def rootFactorsWrong : ChangeSpec := { name := "rootFactors", fn := fun _ => fun
  | [d1, d2] => { results := [.lit (.bool false)], args := [d1, d2] }
  | _ => none }
def RootFactorsWrongFalsely : Prop := rootFactorsRow.holds Try.pinned (OpenSpec.ofChange rootFactorsWrong)

/-- 'frisketlaw03.RootShares': WHATEVER THE INPUT: true; the input reads as it did. -/
def rootSharesSpec : ChangeSpec := { name := "rootShares", fn := fun _ => fun
  | [d1, d2] => { results := [.lit (.bool true)], args := [d1, d2] }
  | _ => none }
def rootSharesRow : OpenClaim := { program := "ytcipcpbjkcpgdaa", sum := "5f2293009ce4137eac5d699a65f1e3352e8b5d4cc6e2d9916e3ba23bec52cfb9", func := "frisket/frisketlaw03.RootShares", spec := "rootShares", recurses := true, apart := false }
def RootSharesSaid : Prop := rootSharesRow.holds Try.pinned (OpenSpec.ofChange rootSharesSpec)

/-- ITS FALSE NEIGHBOUR: 'it returns false'. Refute it at one input. -/
def rootSharesWrong : ChangeSpec := { name := "rootShares", fn := fun _ => fun
  | [d1, d2] => { results := [.lit (.bool false)], args := [d1, d2] }
  | _ => none }
def RootSharesWrongFalsely : Prop := rootSharesRow.holds Try.pinned (OpenSpec.ofChange rootSharesWrong)

/-- 'frisketlaw02.WholeInts': WHATEVER THE INPUT: true; the input reads as it did. -/
def wholeIntsSpec : ChangeSpec := { name := "wholeInts", fn := fun _ => fun
  | [d1, d2] => { results := [.lit (.bool true)], args := [d1, d2] }
  | _ => none }
def wholeIntsRow : OpenClaim := { program := "ytcipcpbjkcpgdaa", sum := "5f2293009ce4137eac5d699a65f1e3352e8b5d4cc6e2d9916e3ba23bec52cfb9", func := "frisket/frisketlaw02.WholeInts", spec := "wholeInts", recurses := true, apart := false }
def WholeIntsSaid : Prop := wholeIntsRow.holds Try.pinned (OpenSpec.ofChange wholeIntsSpec)

/-- ITS FALSE NEIGHBOUR: 'it returns false'. Refute it at one input. -/
def wholeIntsWrong : ChangeSpec := { name := "wholeInts", fn := fun _ => fun
  | [d1, d2] => { results := [.lit (.bool false)], args := [d1, d2] }
  | _ => none }
def WholeIntsWrongFalsely : Prop := wholeIntsRow.holds Try.pinned (OpenSpec.ofChange wholeIntsWrong)

/-- 'frisketlaw03.RootRoots': WHATEVER THE INPUT: true; the input reads as it did. -/
def rootRootsSpec : ChangeSpec := { name := "rootRoots", fn := fun _ => fun
  | [d1, d2] => { results := [.lit (.bool true)], args := [d1, d2] }
  | _ => none }
def rootRootsRow : OpenClaim := { program := "ytcipcpbjkcpgdaa", sum := "5f2293009ce4137eac5d699a65f1e3352e8b5d4cc6e2d9916e3ba23bec52cfb9", func := "frisket/frisketlaw03.RootRoots", spec := "rootRoots", recurses := true, apart := false }
def RootRootsSaid : Prop := rootRootsRow.holds Try.pinned (OpenSpec.ofChange rootRootsSpec)

/-- ITS FALSE NEIGHBOUR: 'it returns false'. Refute it at one input. -/
def rootRootsWrong : ChangeSpec := { name := "rootRoots", fn := fun _ => fun
  | [d1, d2] => { results := [.lit (.bool false)], args := [d1, d2] }
  | _ => none }
def RootRootsWrongFalsely : Prop := rootRootsRow.holds Try.pinned (OpenSpec.ofChange rootRootsWrong)

/-- 'frisketlaw02.WholeSums': WHATEVER THE INPUT: true; the input reads as it did. -/
def wholeSumsSpec : ChangeSpec := { name := "wholeSums", fn := fun _ => fun
  | [d1, d2] => { results := [.lit (.bool true)], args := [d1, d2] }
  | _ => none }
def wholeSumsRow : OpenClaim := { program := "ytcipcpbjkcpgdaa", sum := "5f2293009ce4137eac5d699a65f1e3352e8b5d4cc6e2d9916e3ba23bec52cfb9", func := "frisket/frisketlaw02.WholeSums", spec := "wholeSums", recurses := true, apart := false }
def WholeSumsSaid : Prop := wholeSumsRow.holds Try.pinned (OpenSpec.ofChange wholeSumsSpec)

/-- ITS FALSE NEIGHBOUR: 'it returns false'. Refute it at one input. -/
def wholeSumsWrong : ChangeSpec := { name := "wholeSums", fn := fun _ => fun
  | [d1, d2] => { results := [.lit (.bool false)], args := [d1, d2] }
  | _ => none }
def WholeSumsWrongFalsely : Prop := wholeSumsRow.holds Try.pinned (OpenSpec.ofChange wholeSumsWrong)

/-- 'frisketlaw02.WholeTexts': WHATEVER THE INPUT: true; the input reads as it did. -/
def wholeTextsSpec : ChangeSpec := { name := "wholeTexts", fn := fun _ => fun
  | [d1, d2] => { results := [.lit (.bool true)], args := [d1, d2] }
  | _ => none }
def wholeTextsRow : OpenClaim := { program := "ytcipcpbjkcpgdaa", sum := "5f2293009ce4137eac5d699a65f1e3352e8b5d4cc6e2d9916e3ba23bec52cfb9", func := "frisket/frisketlaw02.WholeTexts", spec := "wholeTexts", recurses := true, apart := false }
def WholeTextsSaid : Prop := wholeTextsRow.holds Try.pinned (OpenSpec.ofChange wholeTextsSpec)

/-- ITS FALSE NEIGHBOUR: 'it returns false'. Refute it at one input. -/
def wholeTextsWrong : ChangeSpec := { name := "wholeTexts", fn := fun _ => fun
  | [d1, d2] => { results := [.lit (.bool false)], args := [d1, d2] }
  | _ => none }
def WholeTextsWrongFalsely : Prop := wholeTextsRow.holds Try.pinned (OpenSpec.ofChange wholeTextsWrong)

/-- 'frisketlaw02.WholeRules': WHATEVER THE INPUT: true; the input reads as it did. -/
def wholeRulesSpec : ChangeSpec := { name := "wholeRules", fn := fun _ => fun
  | [d1, d2, d3] => { results := [.lit (.bool true)], args := [d1, d2, d3] }
  | _ => none }
def wholeRulesRow : OpenClaim := { program := "ytcipcpbjkcpgdaa", sum := "5f2293009ce4137eac5d699a65f1e3352e8b5d4cc6e2d9916e3ba23bec52cfb9", func := "frisket/frisketlaw02.WholeRules", spec := "wholeRules", unfollowed := true, recurses := true, apart := false }
def WholeRulesSaid : Prop := wholeRulesRow.holds Try.pinned (OpenSpec.ofChange wholeRulesSpec)

/-- ITS FALSE NEIGHBOUR: 'it returns false'. Refute it at one input. -/
def wholeRulesWrong : ChangeSpec := { name := "wholeRules", fn := fun _ => fun
  | [d1, d2, d3] => { results := [.lit (.bool false)], args := [d1, d2, d3] }
  | _ => none }
def WholeRulesWrongFalsely : Prop := wholeRulesRow.holds Try.pinned (OpenSpec.ofChange wholeRulesWrong)

/-- 'frisketlaw04.FracDivs': WHATEVER THE INPUT: true; the input reads as it did. -/
def fracDivsSpec : ChangeSpec := { name := "fracDivs", fn := fun _ => fun
  | [d] => { results := [.lit (.bool true)], args := [d] }
  | _ => none }
def fracDivsRow : OpenClaim := { program := "ytcipcpbjkcpgdaa", sum := "5f2293009ce4137eac5d699a65f1e3352e8b5d4cc6e2d9916e3ba23bec52cfb9", func := "frisket/frisketlaw04.FracDivs", spec := "fracDivs", recurses := true, apart := false }
def FracDivsSaid : Prop := fracDivsRow.holds Try.pinned (OpenSpec.ofChange fracDivsSpec)

/-- ITS FALSE NEIGHBOUR: 'it returns false'. Refute it at one input. -/
def fracDivsWrong : ChangeSpec := { name := "fracDivs", fn := fun _ => fun
  | [d] => { results := [.lit (.bool false)], args := [d] }
  | _ => none }
def FracDivsWrongFalsely : Prop := fracDivsRow.holds Try.pinned (OpenSpec.ofChange fracDivsWrong)

/-- 'frisketlaw04.FracSums': WHATEVER THE INPUT: true; the input reads as it did. -/
def fracSumsSpec : ChangeSpec := { name := "fracSums", fn := fun _ => fun
  | [d1, d2] => { results := [.lit (.bool true)], args := [d1, d2] }
  | _ => none }
def fracSumsRow : OpenClaim := { program := "ytcipcpbjkcpgdaa", sum := "5f2293009ce4137eac5d699a65f1e3352e8b5d4cc6e2d9916e3ba23bec52cfb9", func := "frisket/frisketlaw04.FracSums", spec := "fracSums", unfollowed := true, recurses := true, apart := false }
def FracSumsSaid : Prop := fracSumsRow.holds Try.pinned (OpenSpec.ofChange fracSumsSpec)

/-- ITS FALSE NEIGHBOUR: 'it returns false'. Refute it at one input. -/
def fracSumsWrong : ChangeSpec := { name := "fracSums", fn := fun _ => fun
  | [d1, d2] => { results := [.lit (.bool false)], args := [d1, d2] }
  | _ => none }
def FracSumsWrongFalsely : Prop := fracSumsRow.holds Try.pinned (OpenSpec.ofChange fracSumsWrong)

/-- 'frisketlaw04.FracRules': WHATEVER THE INPUT: true; the input reads as it did. -/
def fracRulesSpec : ChangeSpec := { name := "fracRules", fn := fun _ => fun
  | [d1, d2, d3] => { results := [.lit (.bool true)], args := [d1, d2, d3] }
  | _ => none }
def fracRulesRow : OpenClaim := { program := "ytcipcpbjkcpgdaa", sum := "5f2293009ce4137eac5d699a65f1e3352e8b5d4cc6e2d9916e3ba23bec52cfb9", func := "frisket/frisketlaw04.FracRules", spec := "fracRules", unfollowed := true, recurses := true, apart := false }
def FracRulesSaid : Prop := fracRulesRow.holds Try.pinned (OpenSpec.ofChange fracRulesSpec)

/-- ITS FALSE NEIGHBOUR: 'it returns false'. Refute it at one input. -/
def fracRulesWrong : ChangeSpec := { name := "fracRules", fn := fun _ => fun
  | [d1, d2, d3] => { results := [.lit (.bool false)], args := [d1, d2, d3] }
  | _ => none }
def FracRulesWrongFalsely : Prop := fracRulesRow.holds Try.pinned (OpenSpec.ofChange fracRulesWrong)

/-- 'frisketlaw04.FracStands': WHATEVER THE INPUT: true; the input reads as it did. -/
def fracStandsSpec : ChangeSpec := { name := "fracStands", fn := fun _ => fun
  | [d1, d2] => { results := [.lit (.bool true)], args := [d1, d2] }
  | _ => none }
def fracStandsRow : OpenClaim := { program := "ytcipcpbjkcpgdaa", sum := "5f2293009ce4137eac5d699a65f1e3352e8b5d4cc6e2d9916e3ba23bec52cfb9", func := "frisket/frisketlaw04.FracStands", spec := "fracStands", recurses := true, apart := false }
def FracStandsSaid : Prop := fracStandsRow.holds Try.pinned (OpenSpec.ofChange fracStandsSpec)

/-- ITS FALSE NEIGHBOUR: 'it returns false'. Refute it at one input. -/
def fracStandsWrong : ChangeSpec := { name := "fracStands", fn := fun _ => fun
  | [d1, d2] => { results := [.lit (.bool false)], args := [d1, d2] }
  | _ => none }
def FracStandsWrongFalsely : Prop := fracStandsRow.holds Try.pinned (OpenSpec.ofChange fracStandsWrong)

/-- 'frisketlaw04.FracTexts': WHATEVER THE INPUT: true; the input reads as it did. -/
def fracTextsSpec : ChangeSpec := { name := "fracTexts", fn := fun _ => fun
  | [d1, d2] => { results := [.lit (.bool true)], args := [d1, d2] }
  | _ => none }
def fracTextsRow : OpenClaim := { program := "ytcipcpbjkcpgdaa", sum := "5f2293009ce4137eac5d699a65f1e3352e8b5d4cc6e2d9916e3ba23bec52cfb9", func := "frisket/frisketlaw04.FracTexts", spec := "fracTexts", inPlace := ["internal/bytealg.IndexByteString", "internal/bytealg.IndexString"], recurses := true, named := ["internal/bytealg.MaxLen"], apart := false }
def FracTextsSaid : Prop := fracTextsRow.holds Try.pinned (OpenSpec.ofChange fracTextsSpec)

/-- ITS FALSE NEIGHBOUR: 'it returns false'. Refute it at one input. -/
def fracTextsWrong : ChangeSpec := { name := "fracTexts", fn := fun _ => fun
  | [d1, d2] => { results := [.lit (.bool false)], args := [d1, d2] }
  | _ => none }
def FracTextsWrongFalsely : Prop := fracTextsRow.holds Try.pinned (OpenSpec.ofChange fracTextsWrong)

/- THE SECOND FORM. 'bulk': how many values and letters a reading holds, each counted each time it is reached (what is shared counts as often as it is met; a slice's spare places count too). A statement '..UptoSaid' is the law's where the arguments, and the package variables that the reading takes, are together of bulk at most 1048576: NARROWER than '..Said'. Prove '..Said' where nothing that the law and all that it calls make is longer than what came in: it says more and counts as full. Else prove '..UptoSaid'. A law counts once. -/
mutual
def uptoBulk {H : Type} : DataW H → Nat
  | .lit (.string bytes) => bytes.length + 1
  | .lit _ => 1
  | .nil => 1
  | .ptr d => uptoBulk d + 1
  | .slice elems spare => uptoBulkAll elems + uptoBulkAll spare + 1
  | .agg parts => uptoBulkAll parts + 1
  | .iface _ d => uptoBulk d + 1
  | .map entries => uptoBulkEntries entries + 1
  | .held _ => 1
def uptoBulkAll {H : Type} : List (DataW H) → Nat
  | [] => 0
  | d :: r => uptoBulk d + uptoBulkAll r
def uptoBulkEntries {H : Type} : List (Lit × DataW H) → Nat
  | [] => 0
  | x :: r => uptoBulkEntry x + uptoBulkEntries r
def uptoBulkEntry {H : Type} : Lit × DataW H → Nat
  | (.string bytes, d) => bytes.length + uptoBulk d + 1
  | (_, d) => uptoBulk d + 1
 end
def uptoSmall : (H : Type) → List (DataW H) → Bool := fun _ ds => decide (uptoBulkAll ds ≤ 1048576)
def OpenSpec.upto (s : _root_.Go.ChangeSpec) : _root_.Go.OpenSpec := { _root_.Go.OpenSpec.ofChange s with cond := some uptoSmall }

/-- 'frisketlaw01.NatTexts', WHERE WHAT IT READS IS OF BULK AT MOST 1048576: true; the input reads as it did. -/
def natTextsUptoRow : OpenClaim := { program := "ytcipcpbjkcpgdaa", sum := "5f2293009ce4137eac5d699a65f1e3352e8b5d4cc6e2d9916e3ba23bec52cfb9", func := "frisket/frisketlaw01.NatTexts", spec := "natTexts", recurses := true, apart := false, narrowed := true }
def NatTextsUptoSaid : Prop := natTextsUptoRow.holds Try.pinned (OpenSpec.upto natTextsSpec)

/-- 'frisketlaw01.NatWords', WHERE WHAT IT READS IS OF BULK AT MOST 1048576: true; the input reads as it did. -/
def natWordsUptoRow : OpenClaim := { program := "ytcipcpbjkcpgdaa", sum := "5f2293009ce4137eac5d699a65f1e3352e8b5d4cc6e2d9916e3ba23bec52cfb9", func := "frisket/frisketlaw01.NatWords", spec := "natWords", apart := false, narrowed := true }
def NatWordsUptoSaid : Prop := natWordsUptoRow.holds Try.pinned (OpenSpec.upto natWordsSpec)

/-- 'frisketlaw01.NatSums', WHERE WHAT IT READS IS OF BULK AT MOST 1048576: true; the input reads as it did. -/
def natSumsUptoRow : OpenClaim := { program := "ytcipcpbjkcpgdaa", sum := "5f2293009ce4137eac5d699a65f1e3352e8b5d4cc6e2d9916e3ba23bec52cfb9", func := "frisket/frisketlaw01.NatSums", spec := "natSums", recurses := true, apart := false, narrowed := true }
def NatSumsUptoSaid : Prop := natSumsUptoRow.holds Try.pinned (OpenSpec.upto natSumsSpec)

/-- 'frisketlaw01.NatProducts', WHERE WHAT IT READS IS OF BULK AT MOST 1048576: true; the input reads as it did. -/
def natProductsUptoRow : OpenClaim := { program := "ytcipcpbjkcpgdaa", sum := "5f2293009ce4137eac5d699a65f1e3352e8b5d4cc6e2d9916e3ba23bec52cfb9", func := "frisket/frisketlaw01.NatProducts", spec := "natProducts", apart := false, narrowed := true }
def NatProductsUptoSaid : Prop := natProductsUptoRow.holds Try.pinned (OpenSpec.upto natProductsSpec)

/-- 'frisketlaw01.NatBack', WHERE WHAT IT READS IS OF BULK AT MOST 1048576: true; the input reads as it did. -/
def natBackUptoRow : OpenClaim := { program := "ytcipcpbjkcpgdaa", sum := "5f2293009ce4137eac5d699a65f1e3352e8b5d4cc6e2d9916e3ba23bec52cfb9", func := "frisket/frisketlaw01.NatBack", spec := "natBack", recurses := true, apart := false, narrowed := true }
def NatBackUptoSaid : Prop := natBackUptoRow.holds Try.pinned (OpenSpec.upto natBackSpec)

/-- 'frisketlaw02.WholeDivs', WHERE WHAT IT READS IS OF BULK AT MOST 1048576: true; the input reads as it did. -/
def wholeDivsUptoRow : OpenClaim := { program := "ytcipcpbjkcpgdaa", sum := "5f2293009ce4137eac5d699a65f1e3352e8b5d4cc6e2d9916e3ba23bec52cfb9", func := "frisket/frisketlaw02.WholeDivs", spec := "wholeDivs", recurses := true, apart := false, narrowed := true }
def WholeDivsUptoSaid : Prop := wholeDivsUptoRow.holds Try.pinned (OpenSpec.upto wholeDivsSpec)

/-- 'frisketlaw03.RootFactors', WHERE WHAT IT READS IS OF BULK AT MOST 1048576: true; the input reads as it did. -/
def rootFactorsUptoRow : OpenClaim := { program := "ytcipcpbjkcpgdaa", sum := "5f2293009ce4137eac5d699a65f1e3352e8b5d4cc6e2d9916e3ba23bec52cfb9", func := "frisket/frisketlaw03.RootFactors", spec := "rootFactors", recurses := true, apart := false, narrowed := true }
def RootFactorsUptoSaid : Prop := rootFactorsUptoRow.holds Try.pinned (OpenSpec.upto rootFactorsSpec)

/-- 'frisketlaw03.RootShares', WHERE WHAT IT READS IS OF BULK AT MOST 1048576: true; the input reads as it did. -/
def rootSharesUptoRow : OpenClaim := { program := "ytcipcpbjkcpgdaa", sum := "5f2293009ce4137eac5d699a65f1e3352e8b5d4cc6e2d9916e3ba23bec52cfb9", func := "frisket/frisketlaw03.RootShares", spec := "rootShares", recurses := true, apart := false, narrowed := true }
def RootSharesUptoSaid : Prop := rootSharesUptoRow.holds Try.pinned (OpenSpec.upto rootSharesSpec)

/-- 'frisketlaw02.WholeInts', WHERE WHAT IT READS IS OF BULK AT MOST 1048576: true; the input reads as it did. -/
def wholeIntsUptoRow : OpenClaim := { program := "ytcipcpbjkcpgdaa", sum := "5f2293009ce4137eac5d699a65f1e3352e8b5d4cc6e2d9916e3ba23bec52cfb9", func := "frisket/frisketlaw02.WholeInts", spec := "wholeInts", recurses := true, apart := false, narrowed := true }
def WholeIntsUptoSaid : Prop := wholeIntsUptoRow.holds Try.pinned (OpenSpec.upto wholeIntsSpec)

/-- 'frisketlaw03.RootRoots', WHERE WHAT IT READS IS OF BULK AT MOST 1048576: true; the input reads as it did. -/
def rootRootsUptoRow : OpenClaim := { program := "ytcipcpbjkcpgdaa", sum := "5f2293009ce4137eac5d699a65f1e3352e8b5d4cc6e2d9916e3ba23bec52cfb9", func := "frisket/frisketlaw03.RootRoots", spec := "rootRoots", recurses := true, apart := false, narrowed := true }
def RootRootsUptoSaid : Prop := rootRootsUptoRow.holds Try.pinned (OpenSpec.upto rootRootsSpec)

/-- 'frisketlaw02.WholeSums', WHERE WHAT IT READS IS OF BULK AT MOST 1048576: true; the input reads as it did. -/
def wholeSumsUptoRow : OpenClaim := { program := "ytcipcpbjkcpgdaa", sum := "5f2293009ce4137eac5d699a65f1e3352e8b5d4cc6e2d9916e3ba23bec52cfb9", func := "frisket/frisketlaw02.WholeSums", spec := "wholeSums", recurses := true, apart := false, narrowed := true }
def WholeSumsUptoSaid : Prop := wholeSumsUptoRow.holds Try.pinned (OpenSpec.upto wholeSumsSpec)

/-- 'frisketlaw02.WholeTexts', WHERE WHAT IT READS IS OF BULK AT MOST 1048576: true; the input reads as it did. -/
def wholeTextsUptoRow : OpenClaim := { program := "ytcipcpbjkcpgdaa", sum := "5f2293009ce4137eac5d699a65f1e3352e8b5d4cc6e2d9916e3ba23bec52cfb9", func := "frisket/frisketlaw02.WholeTexts", spec := "wholeTexts", recurses := true, apart := false, narrowed := true }
def WholeTextsUptoSaid : Prop := wholeTextsUptoRow.holds Try.pinned (OpenSpec.upto wholeTextsSpec)

/-- 'frisketlaw02.WholeRules', WHERE WHAT IT READS IS OF BULK AT MOST 1048576: true; the input reads as it did. -/
def wholeRulesUptoRow : OpenClaim := { program := "ytcipcpbjkcpgdaa", sum := "5f2293009ce4137eac5d699a65f1e3352e8b5d4cc6e2d9916e3ba23bec52cfb9", func := "frisket/frisketlaw02.WholeRules", spec := "wholeRules", unfollowed := true, recurses := true, apart := false, narrowed := true }
def WholeRulesUptoSaid : Prop := wholeRulesUptoRow.holds Try.pinned (OpenSpec.upto wholeRulesSpec)

/-- 'frisketlaw04.FracDivs', WHERE WHAT IT READS IS OF BULK AT MOST 1048576: true; the input reads as it did. -/
def fracDivsUptoRow : OpenClaim := { program := "ytcipcpbjkcpgdaa", sum := "5f2293009ce4137eac5d699a65f1e3352e8b5d4cc6e2d9916e3ba23bec52cfb9", func := "frisket/frisketlaw04.FracDivs", spec := "fracDivs", recurses := true, apart := false, narrowed := true }
def FracDivsUptoSaid : Prop := fracDivsUptoRow.holds Try.pinned (OpenSpec.upto fracDivsSpec)

/-- 'frisketlaw04.FracSums', WHERE WHAT IT READS IS OF BULK AT MOST 1048576: true; the input reads as it did. -/
def fracSumsUptoRow : OpenClaim := { program := "ytcipcpbjkcpgdaa", sum := "5f2293009ce4137eac5d699a65f1e3352e8b5d4cc6e2d9916e3ba23bec52cfb9", func := "frisket/frisketlaw04.FracSums", spec := "fracSums", unfollowed := true, recurses := true, apart := false, narrowed := true }
def FracSumsUptoSaid : Prop := fracSumsUptoRow.holds Try.pinned (OpenSpec.upto fracSumsSpec)

/-- 'frisketlaw04.FracRules', WHERE WHAT IT READS IS OF BULK AT MOST 1048576: true; the input reads as it did. -/
def fracRulesUptoRow : OpenClaim := { program := "ytcipcpbjkcpgdaa", sum := "5f2293009ce4137eac5d699a65f1e3352e8b5d4cc6e2d9916e3ba23bec52cfb9", func := "frisket/frisketlaw04.FracRules", spec := "fracRules", unfollowed := true, recurses := true, apart := false, narrowed := true }
def FracRulesUptoSaid : Prop := fracRulesUptoRow.holds Try.pinned (OpenSpec.upto fracRulesSpec)

/-- 'frisketlaw04.FracStands', WHERE WHAT IT READS IS OF BULK AT MOST 1048576: true; the input reads as it did. -/
def fracStandsUptoRow : OpenClaim := { program := "ytcipcpbjkcpgdaa", sum := "5f2293009ce4137eac5d699a65f1e3352e8b5d4cc6e2d9916e3ba23bec52cfb9", func := "frisket/frisketlaw04.FracStands", spec := "fracStands", recurses := true, apart := false, narrowed := true }
def FracStandsUptoSaid : Prop := fracStandsUptoRow.holds Try.pinned (OpenSpec.upto fracStandsSpec)

/-- 'frisketlaw04.FracTexts', WHERE WHAT IT READS IS OF BULK AT MOST 1048576: true; the input reads as it did. -/
def fracTextsUptoRow : OpenClaim := { program := "ytcipcpbjkcpgdaa", sum := "5f2293009ce4137eac5d699a65f1e3352e8b5d4cc6e2d9916e3ba23bec52cfb9", func := "frisket/frisketlaw04.FracTexts", spec := "fracTexts", inPlace := ["internal/bytealg.IndexByteString", "internal/bytealg.IndexString"], recurses := true, named := ["internal/bytealg.MaxLen"], apart := false, narrowed := true }
def FracTextsUptoSaid : Prop := fracTextsUptoRow.holds Try.pinned (OpenSpec.upto fracTextsSpec)

end Rows
end Go.Proofs.Ytcipcpbjkcpgdaa
