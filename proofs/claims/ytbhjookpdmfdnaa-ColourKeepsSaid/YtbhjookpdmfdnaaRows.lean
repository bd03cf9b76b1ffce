/-
  No cell of these rows narrows 'for every input' (looked for: loops, veiled, ifaces, maps, wideKeys, modest, calm, conditions, laid).
  DERIVED. THE GIVEN ROWS OF THIS SEAT. 7 by the template 'for every input the law returns true; each argument reads behind the call as it read before'; 0 by the template 'total and deterministic' (their statements: YtbhjookpdmfdnaaTotals.lean).
  GIVEN WITH THE SEED: the statements are not yours to turn. If you find one false, say at which input.
  Laid BY PROGRAM, IN A SANDBOX (cutbox-rows.mjs): the forced cells as the released guide's own fill.sh prints them over the translation 322970ceae1f6c65… (all of the seat's roots in one cut). By AI agents, Wed Nov 11 2026. No macro, syntax, notation, axiom, sorry.
-/
import Derived.Test.YtbhjookpdmfdnaaChecked
import GoSem.Claim
import GoSem.ClaimJoined
import GoSem.ClaimMapViews
import Derived.JoinedTies
import Derived.KernelRfl
namespace Go.Proofs.Ytbhjookpdmfdnaa
/- THE CELL 'sum', in the pinned program and in every row, IS THE sha256 OF THE DUMP (.gsa) THAT YtbhjookpdmfdnaaProg.lean LOADS. Nothing in Lean hashes anything: it is a label: what it is worth is what the hold of that sum in a sandbox is worth. -/
noncomputable def Try.pinned : Pinned := { name := "ytbhjookpdmfdnaa", sum := "322970ceae1f6c6546255ac26c469fffc68be332c6b1af084b5ed24d479e3093", checked := Try.checked }
namespace Rows
def none {H : Type} : Left H := { results := [], args := [] }

/-- 'frisketlaw08.ColourOvers': WHATEVER THE INPUT: true; the input reads as it did. -/
def colourOversSpec : ChangeSpec := { name := "colourOvers", fn := fun _ => fun
  | [d1, d2] => { results := [.lit (.bool true)], args := [d1, d2] }
  | _ => none }
def colourOversRow : OpenClaim := { program := "ytbhjookpdmfdnaa", sum := "322970ceae1f6c6546255ac26c469fffc68be332c6b1af084b5ed24d479e3093", func := "frisket/frisketlaw08.ColourOvers", spec := "colourOvers", unfollowed := true, recurses := true, apart := false }
def ColourOversSaid : Prop := colourOversRow.holds Try.pinned (OpenSpec.ofChange colourOversSpec)

/-- ITS FALSE NEIGHBOUR: 'it returns false'. Refute it at one input. -/
def colourOversWrong : ChangeSpec := { name := "colourOvers", fn := fun _ => fun
  | [d1, d2] => { results := [.lit (.bool false)], args := [d1, d2] }
  | _ => none }
def ColourOversWrongFalsely : Prop := colourOversRow.holds Try.pinned (OpenSpec.ofChange colourOversWrong)

/-- 'frisketlaw08.ColourParts': WHATEVER THE INPUT: true; the input reads as it did. -/
def colourPartsSpec : ChangeSpec := { name := "colourParts", fn := fun _ => fun
  | [d1, d2, d3] => { results := [.lit (.bool true)], args := [d1, d2, d3] }
  | _ => none }
def colourPartsRow : OpenClaim := { program := "ytbhjookpdmfdnaa", sum := "322970ceae1f6c6546255ac26c469fffc68be332c6b1af084b5ed24d479e3093", func := "frisket/frisketlaw08.ColourParts", spec := "colourParts", unfollowed := true, recurses := true, apart := false }
def ColourPartsSaid : Prop := colourPartsRow.holds Try.pinned (OpenSpec.ofChange colourPartsSpec)

/-- ITS FALSE NEIGHBOUR: 'it returns false'. Refute it at one input. -/
def colourPartsWrong : ChangeSpec := { name := "colourParts", fn := fun _ => fun
  | [d1, d2, d3] => { results := [.lit (.bool false)], args := [d1, d2, d3] }
  | _ => none }
def ColourPartsWrongFalsely : Prop := colourPartsRow.holds Try.pinned (OpenSpec.ofChange colourPartsWrong)

/-- 'frisketlaw08.ColourKeeps': WHATEVER THE INPUT: true; the input reads as it did. -/
def colourKeepsSpec : ChangeSpec := { name := "colourKeeps", fn := fun _ => fun
  | [d1, d2, d3] => { results := [.lit (.bool true)], args := [d1, d2, d3] }
  | _ => none }
def colourKeepsRow : OpenClaim := { program := "ytbhjookpdmfdnaa", sum := "322970ceae1f6c6546255ac26c469fffc68be332c6b1af084b5ed24d479e3093", func := "frisket/frisketlaw08.ColourKeeps", spec := "colourKeeps", unfollowed := true, recurses := true, apart := false }
def ColourKeepsSaid : Prop := colourKeepsRow.holds Try.pinned (OpenSpec.ofChange colourKeepsSpec)

/-- ITS FALSE NEIGHBOUR: 'it returns false'. Refute it at one input. -/
def colourKeepsWrong : ChangeSpec := { name := "colourKeeps", fn := fun _ => fun
  | [d1, d2, d3] => { results := [.lit (.bool false)], args := [d1, d2, d3] }
  | _ => none }
def ColourKeepsWrongFalsely : Prop := colourKeepsRow.holds Try.pinned (OpenSpec.ofChange colourKeepsWrong)

/-- 'frisketlaw09.PamParts': WHATEVER THE INPUT: true; the input reads as it did. -/
def pamPartsSpec : ChangeSpec := { name := "pamParts", fn := fun _ => fun
  | [d1, d2] => { results := [.lit (.bool true)], args := [d1, d2] }
  | _ => none }
def pamPartsRow : OpenClaim := { program := "ytbhjookpdmfdnaa", sum := "322970ceae1f6c6546255ac26c469fffc68be332c6b1af084b5ed24d479e3093", func := "frisket/frisketlaw09.PamParts", spec := "pamParts", apart := false }
def PamPartsSaid : Prop := pamPartsRow.holds Try.pinned (OpenSpec.ofChange pamPartsSpec)

/-- ITS FALSE NEIGHBOUR: 'it returns false'. Refute it at one input. -/
def pamPartsWrong : ChangeSpec := { name := "pamParts", fn := fun _ => fun
  | [d1, d2] => { results := [.lit (.bool false)], args := [d1, d2] }
  | _ => none }
def PamPartsWrongFalsely : Prop := pamPartsRow.holds Try.pinned (OpenSpec.ofChange pamPartsWrong)

/-- 'frisketlaw09.PamDiffers': WHATEVER THE INPUT: true; the input reads as it did. -/
def pamDiffersSpec : ChangeSpec := { name := "pamDiffers", fn := fun _ => fun
  | [d1, d2] => { results := [.lit (.bool true)], args := [d1, d2] }
  | _ => none }
def pamDiffersRow : OpenClaim := { program := "ytbhjookpdmfdnaa", sum := "322970ceae1f6c6546255ac26c469fffc68be332c6b1af084b5ed24d479e3093", func := "frisket/frisketlaw09.PamDiffers", spec := "pamDiffers", apart := false }
def PamDiffersSaid : Prop := pamDiffersRow.holds Try.pinned (OpenSpec.ofChange pamDiffersSpec)

/-- ITS FALSE NEIGHBOUR: 'it returns false'. Refute it at one input. -/
def pamDiffersWrong : ChangeSpec := { name := "pamDiffers", fn := fun _ => fun
  | [d1, d2] => { results := [.lit (.bool false)], args := [d1, d2] }
  | _ => none }
def PamDiffersWrongFalsely : Prop := pamDiffersRow.holds Try.pinned (OpenSpec.ofChange pamDiffersWrong)

/-- 'frisketlaw09.PamFiles': WHATEVER THE INPUT: true; the input reads as it did. -/
def pamFilesSpec : ChangeSpec := { name := "pamFiles", fn := fun _ => fun
  | [d1, d2] => { results := [.lit (.bool true)], args := [d1, d2] }
  | _ => none }
def pamFilesRow : OpenClaim := { program := "ytbhjookpdmfdnaa", sum := "322970ceae1f6c6546255ac26c469fffc68be332c6b1af084b5ed24d479e3093", func := "frisket/frisketlaw09.PamFiles", spec := "pamFiles", inPlace := ["internal/bytealg.IndexByte", "internal/bytealg.Index"], named := ["internal/bytealg.MaxLen"], apart := false }
def PamFilesSaid : Prop := pamFilesRow.holds Try.pinned (OpenSpec.ofChange pamFilesSpec)

/-- ITS FALSE NEIGHBOUR: 'it returns false'. Refute it at one input. -/
def pamFilesWrong : ChangeSpec := { name := "pamFiles", fn := fun _ => fun
  | [d1, d2] => { results := [.lit (.bool false)], args := [d1, d2] }
  | _ => none }
def PamFilesWrongFalsely : Prop := pamFilesRow.holds Try.pinned (OpenSpec.ofChange pamFilesWrong)

/-- 'frisketlaw09.PamBack': WHATEVER THE INPUT: true; the input reads as it did. -/
def pamBackSpec : ChangeSpec := { name := "pamBack", fn := fun _ => fun
  | [d1, d2] => { results := [.lit (.bool true)], args := [d1, d2] }
  | _ => none }
def pamBackRow : OpenClaim := { program := "ytbhjookpdmfdnaa", sum := "322970ceae1f6c6546255ac26c469fffc68be332c6b1af084b5ed24d479e3093", func := "frisket/frisketlaw09.PamBack", spec := "pamBack", inPlace := ["internal/bytealg.IndexByte", "internal/bytealg.Index"], named := ["internal/bytealg.MaxLen"], apart := false }
def PamBackSaid : Prop := pamBackRow.holds Try.pinned (OpenSpec.ofChange pamBackSpec)

/-- ITS FALSE NEIGHBOUR: 'it returns false'. Refute it at one input. -/
def pamBackWrong : ChangeSpec := { name := "pamBack", fn := fun _ => fun
  | [d1, d2] => { results := [.lit (.bool false)], args := [d1, d2] }
  | _ => none }
def PamBackWrongFalsely : Prop := pamBackRow.holds Try.pinned (OpenSpec.ofChange pamBackWrong)

/- THE SECOND FORM. 'bulk': how many values and letters a reading holds, each counted each time it is reached (what is shared counts as often as it is met; a slice's spare places count too). A statement '..UptoSaid' is the law's where the arguments, and the package variables that the reading takes, are together of bulk at most 1048576: NARROWER than '..Said'. Prove '..Said' where nothing that the law and all that it calls make is longer than what came in: it says more and counts as full. Else prove '..UptoSaid'. A law counts once. -/
mutual
def uptoBulk {H : Type} : DataW H → Nat
  | .lit (.string bytes) => bytes.length + 1
  | .lit _ => 1
  | .nil => 1
  | .ptr d => uptoBulk d + 1
  | .slice elems spare => uptoBulkAll elems + uptoBulkAll spare + 1
  | .agg parts => uptoBulkAll parts + 1
  | .iface _ d => uptoBulk d + 1
  | .map entries => uptoBulkEntries entries + 1
  | .held _ => 1
def uptoBulkAll {H : Type} : List (DataW H) → Nat
  | [] => 0
  | d :: r => uptoBulk d + uptoBulkAll r
def uptoBulkEntries {H : Type} : List (Lit × DataW H) → Nat
  | [] => 0
  | x :: r => uptoBulkEntry x + uptoBulkEntries r
def uptoBulkEntry {H : Type} : Lit × DataW H → Nat
  | (.string bytes, d) => bytes.length + uptoBulk d + 1
  | (_, d) => uptoBulk d + 1
 end
def uptoSmall : (H : Type) → List (DataW H) → Bool := fun _ ds => decide (uptoBulkAll ds ≤ 1048576)
def OpenSpec.upto (s : _root_.Go.ChangeSpec) : _root_.Go.OpenSpec := { _root_.Go.OpenSpec.ofChange s with cond := some uptoSmall }

/-- 'frisketlaw08.ColourOvers', WHERE WHAT IT READS IS OF BULK AT MOST 1048576: true; the input reads as it did. -/
def colourOversUptoRow : OpenClaim := { program := "ytbhjookpdmfdnaa", sum := "322970ceae1f6c6546255ac26c469fffc68be332c6b1af084b5ed24d479e3093", func := "frisket/frisketlaw08.ColourOvers", spec := "colourOvers", unfollowed := true, recurses := true, apart := false, narrowed := true }
def ColourOversUptoSaid : Prop := colourOversUptoRow.holds Try.pinned (OpenSpec.upto colourOversSpec)

/-- 'frisketlaw08.ColourParts', WHERE WHAT IT READS IS OF BULK AT MOST 1048576: true; the input reads as it did. -/
def colourPartsUptoRow : OpenClaim := { program := "ytbhjookpdmfdnaa", sum := "322970ceae1f6c6546255ac26c469fffc68be332c6b1af084b5ed24d479e3093", func := "frisket/frisketlaw08.ColourParts", spec := "colourParts", unfollowed := true, recurses := true, apart := false, narrowed := true }
def ColourPartsUptoSaid : Prop := colourPartsUptoRow.holds Try.pinned (OpenSpec.upto colourPartsSpec)

/-- 'frisketlaw08.ColourKeeps', WHERE WHAT IT READS IS OF BULK AT MOST 1048576: true; the input reads as it did. -/
def colourKeepsUptoRow : OpenClaim := { program := "ytbhjookpdmfdnaa", sum := "322970ceae1f6c6546255ac26c469fffc68be332c6b1af084b5ed24d479e3093", func := "frisket/frisketlaw08.ColourKeeps", spec := "colourKeeps", unfollowed := true, recurses := true, apart := false, narrowed := true }
def ColourKeepsUptoSaid : Prop := colourKeepsUptoRow.holds Try.pinned (OpenSpec.upto colourKeepsSpec)

/-- 'frisketlaw09.PamParts', WHERE WHAT IT READS IS OF BULK AT MOST 1048576: true; the input reads as it did. -/
def pamPartsUptoRow : OpenClaim := { program := "ytbhjookpdmfdnaa", sum := "322970ceae1f6c6546255ac26c469fffc68be332c6b1af084b5ed24d479e3093", func := "frisket/frisketlaw09.PamParts", spec := "pamParts", apart := false, narrowed := true }
def PamPartsUptoSaid : Prop := pamPartsUptoRow.holds Try.pinned (OpenSpec.upto pamPartsSpec)

/-- 'frisketlaw09.PamDiffers', WHERE WHAT IT READS IS OF BULK AT MOST 1048576: true; the input reads as it did. -/
def pamDiffersUptoRow : OpenClaim := { program := "ytbhjookpdmfdnaa", sum := "322970ceae1f6c6546255ac26c469fffc68be332c6b1af084b5ed24d479e3093", func := "frisket/frisketlaw09.PamDiffers", spec := "pamDiffers", apart := false, narrowed := true }
def PamDiffersUptoSaid : Prop := pamDiffersUptoRow.holds Try.pinned (OpenSpec.upto pamDiffersSpec)

/-- 'frisketlaw09.PamFiles', WHERE WHAT IT READS IS OF BULK AT MOST 1048576: true; the input reads as it did. -/
def pamFilesUptoRow : OpenClaim := { program := "ytbhjookpdmfdnaa", sum := "322970ceae1f6c6546255ac26c469fffc68be332c6b1af084b5ed24d479e3093", func := "frisket/frisketlaw09.PamFiles", spec := "pamFiles", inPlace := ["internal/bytealg.IndexByte", "internal/bytealg.Index"], named := ["internal/bytealg.MaxLen"], apart := false, narrowed := true }
def PamFilesUptoSaid : Prop := pamFilesUptoRow.holds Try.pinned (OpenSpec.upto pamFilesSpec)

/-- 'frisketlaw09.PamBack', WHERE WHAT IT READS IS OF BULK AT MOST 1048576: true; the input reads as it did. -/
def pamBackUptoRow : OpenClaim := { program := "ytbhjookpdmfdnaa", sum := "322970ceae1f6c6546255ac26c469fffc68be332c6b1af084b5ed24d479e3093", func := "frisket/frisketlaw09.PamBack", spec := "pamBack", inPlace := ["internal/bytealg.IndexByte", "internal/bytealg.Index"], named := ["internal/bytealg.MaxLen"], apart := false, narrowed := true }
def PamBackUptoSaid : Prop := pamBackUptoRow.holds Try.pinned (OpenSpec.upto pamBackSpec)

end Rows
end Go.Proofs.Ytbhjookpdmfdnaa
