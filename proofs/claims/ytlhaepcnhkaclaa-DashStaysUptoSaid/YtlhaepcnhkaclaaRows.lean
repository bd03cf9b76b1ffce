/-
  No cell of these rows narrows 'for every input' (looked for: loops, veiled, ifaces, maps, wideKeys, modest, calm, conditions, laid).
  DERIVED. THE GIVEN ROWS OF THIS SEAT. 5 by the template 'for every input the law returns true; each argument reads behind the call as it read before'; 0 by the template 'total and deterministic' (their statements: YtlhaepcnhkaclaaTotals.lean).
  GIVEN WITH THE SEED: the statements are not yours to turn. If you find one false, say at which input.
  Laid BY PROGRAM, IN A SANDBOX (cutbox-rows.mjs): the forced cells as the released guide's own fill.sh prints them over the translation c2aa3d92babd2172… (all of the seat's roots in one cut). By AI agents, Wed Nov 11 2026. No macro, syntax, notation, axiom, sorry.
-/
import Derived.Test.YtlhaepcnhkaclaaChecked
import GoSem.Claim
import GoSem.ClaimJoined
import GoSem.ClaimMapViews
import Derived.JoinedTies
import Derived.KernelRfl
namespace Go.Proofs.Ytlhaepcnhkaclaa
/- THE CELL 'sum', in the pinned program and in every row, IS THE sha256 OF THE DUMP (.gsa) THAT YtlhaepcnhkaclaaProg.lean LOADS. Nothing in Lean hashes anything: it is a label: what it is worth is what the hold of that sum in a sandbox is worth. -/
noncomputable def Try.pinned : Pinned := { name := "ytlhaepcnhkaclaa", sum := "c2aa3d92babd2172f1fdfb6c6df0c5a8656ce96af69ad52c6c82e16d7a743186", checked := Try.checked }
namespace Rows
def none {H : Type} : Left H := { results := [], args := [] }

/-- 'frisketlaw15.DashCuts': WHATEVER THE INPUT: true; the input reads as it did. -/
def dashCutsSpec : ChangeSpec := { name := "dashCuts", fn := fun _ => fun
  | [d1, d2, d3] => { results := [.lit (.bool true)], args := [d1, d2, d3] }
  | _ => none }
def dashCutsRow : OpenClaim := { program := "ytlhaepcnhkaclaa", sum := "c2aa3d92babd2172f1fdfb6c6df0c5a8656ce96af69ad52c6c82e16d7a743186", func := "frisket/frisketlaw15.DashCuts", spec := "dashCuts", unfollowed := true, recurses := true, apart := false }
def DashCutsSaid : Prop := dashCutsRow.holds Try.pinned (OpenSpec.ofChange dashCutsSpec)

/-- ITS FALSE NEIGHBOUR: 'it returns false'. Refute it at one input. -/
def dashCutsWrong : ChangeSpec := { name := "dashCuts", fn := fun _ => fun
  | [d1, d2, d3] => { results := [.lit (.bool false)], args := [d1, d2, d3] }
  | _ => none }
def DashCutsWrongFalsely : Prop := dashCutsRow.holds Try.pinned (OpenSpec.ofChange dashCutsWrong)

/-- 'frisketlaw15.DashStays': WHATEVER THE INPUT: true; the input reads as it did. -/
def dashStaysSpec : ChangeSpec := { name := "dashStays", fn := fun _ => fun
  | [d1, d2, d3] => { results := [.lit (.bool true)], args := [d1, d2, d3] }
  | _ => none }
def dashStaysRow : OpenClaim := { program := "ytlhaepcnhkaclaa", sum := "c2aa3d92babd2172f1fdfb6c6df0c5a8656ce96af69ad52c6c82e16d7a743186", func := "frisket/frisketlaw15.DashStays", spec := "dashStays", unfollowed := true, recurses := true, apart := false }
def DashStaysSaid : Prop := dashStaysRow.holds Try.pinned (OpenSpec.ofChange dashStaysSpec)

/-- ITS FALSE NEIGHBOUR: 'it returns false'. Refute it at one input. -/
def dashStaysWrong : ChangeSpec := { name := "dashStays", fn := fun _ => fun
  | [d1, d2, d3] => { results := [.lit (.bool false)], args := [d1, d2, d3] }
  | _ => none }
def DashStaysWrongFalsely : Prop := dashStaysRow.holds Try.pinned (OpenSpec.ofChange dashStaysWrong)

/-- 'frisketlaw15.DashPoints': WHATEVER THE INPUT: true; the input reads as it did. -/
def dashPointsSpec : ChangeSpec := { name := "dashPoints", fn := fun _ => fun
  | [d1, d2, d3] => { results := [.lit (.bool true)], args := [d1, d2, d3] }
  | _ => none }
def dashPointsRow : OpenClaim := { program := "ytlhaepcnhkaclaa", sum := "c2aa3d92babd2172f1fdfb6c6df0c5a8656ce96af69ad52c6c82e16d7a743186", func := "frisket/frisketlaw15.DashPoints", spec := "dashPoints", unfollowed := true, recurses := true, apart := false }
def DashPointsSaid : Prop := dashPointsRow.holds Try.pinned (OpenSpec.ofChange dashPointsSpec)

/-- ITS FALSE NEIGHBOUR: 'it returns false'. Refute it at one input. -/
def dashPointsWrong : ChangeSpec := { name := "dashPoints", fn := fun _ => fun
  | [d1, d2, d3] => { results := [.lit (.bool false)], args := [d1, d2, d3] }
  | _ => none }
def DashPointsWrongFalsely : Prop := dashPointsRow.holds Try.pinned (OpenSpec.ofChange dashPointsWrong)

/-- 'frisketlaw29.TexelTaps': WHATEVER THE INPUT: true; the input reads as it did. -/
def texelTapsSpec : ChangeSpec := { name := "texelTaps", fn := fun _ => fun
  | [d1, d2] => { results := [.lit (.bool true)], args := [d1, d2] }
  | _ => none }
def texelTapsRow : OpenClaim := { program := "ytlhaepcnhkaclaa", sum := "c2aa3d92babd2172f1fdfb6c6df0c5a8656ce96af69ad52c6c82e16d7a743186", func := "frisket/frisketlaw29.TexelTaps", spec := "texelTaps", unfollowed := true, recurses := true, apart := false }
def TexelTapsSaid : Prop := texelTapsRow.holds Try.pinned (OpenSpec.ofChange texelTapsSpec)

/-- ITS FALSE NEIGHBOUR: 'it returns false'. Refute it at one input. -/
def texelTapsWrong : ChangeSpec := { name := "texelTaps", fn := fun _ => fun
  | [d1, d2] => { results := [.lit (.bool false)], args := [d1, d2] }
  | _ => none }
def TexelTapsWrongFalsely : Prop := texelTapsRow.holds Try.pinned (OpenSpec.ofChange texelTapsWrong)

/-- 'frisketlaw29.TexelBlank': WHATEVER THE INPUT: true; the input reads as it did. -/
def texelBlankSpec : ChangeSpec := { name := "texelBlank", fn := fun _ => fun
  | [d1, d2, d3] => { results := [.lit (.bool true)], args := [d1, d2, d3] }
  | _ => none }
def texelBlankRow : OpenClaim := { program := "ytlhaepcnhkaclaa", sum := "c2aa3d92babd2172f1fdfb6c6df0c5a8656ce96af69ad52c6c82e16d7a743186", func := "frisket/frisketlaw29.TexelBlank", spec := "texelBlank", unfollowed := true, recurses := true, apart := false }
def TexelBlankSaid : Prop := texelBlankRow.holds Try.pinned (OpenSpec.ofChange texelBlankSpec)

/-- ITS FALSE NEIGHBOUR: 'it returns false'. Refute it at one input. -/
def texelBlankWrong : ChangeSpec := { name := "texelBlank", fn := fun _ => fun
  | [d1, d2, d3] => { results := [.lit (.bool false)], args := [d1, d2, d3] }
  | _ => none }
def TexelBlankWrongFalsely : Prop := texelBlankRow.holds Try.pinned (OpenSpec.ofChange texelBlankWrong)

/- THE SECOND FORM. 'bulk': how many values and letters a reading holds, each counted each time it is reached (what is shared counts as often as it is met; a slice's spare places count too). A statement '..UptoSaid' is the law's where the arguments, and the package variables that the reading takes, are together of bulk at most 1048576: NARROWER than '..Said'. Prove '..Said' where nothing that the law and all that it calls make is longer than what came in: it says more and counts as full. Else prove '..UptoSaid'. A law counts once. -/
mutual
def uptoBulk {H : Type} : DataW H → Nat
  | .lit (.string bytes) => bytes.length + 1
  | .lit _ => 1
  | .nil => 1
  | .ptr d => uptoBulk d + 1
  | .slice elems spare => uptoBulkAll elems + uptoBulkAll spare + 1
  | .agg parts => uptoBulkAll parts + 1
  | .iface _ d => uptoBulk d + 1
  | .map entries => uptoBulkEntries entries + 1
  | .held _ => 1
def uptoBulkAll {H : Type} : List (DataW H) → Nat
  | [] => 0
  | d :: r => uptoBulk d + uptoBulkAll r
def uptoBulkEntries {H : Type} : List (Lit × DataW H) → Nat
  | [] => 0
  | x :: r => uptoBulkEntry x + uptoBulkEntries r
def uptoBulkEntry {H : Type} : Lit × DataW H → Nat
  | (.string bytes, d) => bytes.length + uptoBulk d + 1
  | (_, d) => uptoBulk d + 1
 end
def uptoSmall : (H : Type) → List (DataW H) → Bool := fun _ ds => decide (uptoBulkAll ds ≤ 1048576)
def OpenSpec.upto (s : _root_.Go.ChangeSpec) : _root_.Go.OpenSpec := { _root_.Go.OpenSpec.ofChange s with cond := some uptoSmall }

/-- 'frisketlaw15.DashCuts', WHERE WHAT IT READS IS OF BULK AT MOST 1048576: true; the input reads as it did. -/
def dashCutsUptoRow : OpenClaim := { program := "ytlhaepcnhkaclaa", sum := "c2aa3d92babd2172f1fdfb6c6df0c5a8656ce96af69ad52c6c82e16d7a743186", func := "frisket/frisketlaw15.DashCuts", spec := "dashCuts", unfollowed := true, recurses := true, apart := false, narrowed := true }
def DashCutsUptoSaid : Prop := dashCutsUptoRow.holds Try.pinned (OpenSpec.upto dashCutsSpec)

/-- 'frisketlaw15.DashStays', WHERE WHAT IT READS IS OF BULK AT MOST 1048576: true; the input reads as it did. -/
def dashStaysUptoRow : OpenClaim := { program := "ytlhaepcnhkaclaa", sum := "c2aa3d92babd2172f1fdfb6c6df0c5a8656ce96af69ad52c6c82e16d7a743186", func := "frisket/frisketlaw15.DashStays", spec := "dashStays", unfollowed := true, recurses := true, apart := false, narrowed := true }
def DashStaysUptoSaid : Prop := dashStaysUptoRow.holds Try.pinned (OpenSpec.upto dashStaysSpec)

/-- 'frisketlaw15.DashPoints', WHERE WHAT IT READS IS OF BULK AT MOST 1048576: true; the input reads as it did. -/
def dashPointsUptoRow : OpenClaim := { program := "ytlhaepcnhkaclaa", sum := "c2aa3d92babd2172f1fdfb6c6df0c5a8656ce96af69ad52c6c82e16d7a743186", func := "frisket/frisketlaw15.DashPoints", spec := "dashPoints", unfollowed := true, recurses := true, apart := false, narrowed := true }
def DashPointsUptoSaid : Prop := dashPointsUptoRow.holds Try.pinned (OpenSpec.upto dashPointsSpec)

/-- 'frisketlaw29.TexelTaps', WHERE WHAT IT READS IS OF BULK AT MOST 1048576: true; the input reads as it did. -/
def texelTapsUptoRow : OpenClaim := { program := "ytlhaepcnhkaclaa", sum := "c2aa3d92babd2172f1fdfb6c6df0c5a8656ce96af69ad52c6c82e16d7a743186", func := "frisket/frisketlaw29.TexelTaps", spec := "texelTaps", unfollowed := true, recurses := true, apart := false, narrowed := true }
def TexelTapsUptoSaid : Prop := texelTapsUptoRow.holds Try.pinned (OpenSpec.upto texelTapsSpec)

/-- 'frisketlaw29.TexelBlank', WHERE WHAT IT READS IS OF BULK AT MOST 1048576: true; the input reads as it did. -/
def texelBlankUptoRow : OpenClaim := { program := "ytlhaepcnhkaclaa", sum := "c2aa3d92babd2172f1fdfb6c6df0c5a8656ce96af69ad52c6c82e16d7a743186", func := "frisket/frisketlaw29.TexelBlank", spec := "texelBlank", unfollowed := true, recurses := true, apart := false, narrowed := true }
def TexelBlankUptoSaid : Prop := texelBlankUptoRow.holds Try.pinned (OpenSpec.upto texelBlankSpec)

end Rows
end Go.Proofs.Ytlhaepcnhkaclaa
