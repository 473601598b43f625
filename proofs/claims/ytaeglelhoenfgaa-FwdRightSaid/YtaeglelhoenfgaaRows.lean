/-
  No cell of these rows narrows 'for every input' (looked for: loops, veiled, ifaces, maps, wideKeys, modest, calm, conditions, laid).
  DERIVED. THE GIVEN ROWS OF THIS SEAT. 5 by the template 'for every input the law returns true; each argument reads behind the call as it read before'; 0 by the template 'total and deterministic' (their statements: YtaeglelhoenfgaaTotals.lean).
  GIVEN WITH THE SEED: the statements are not yours to turn. If you find one false, say at which input.
  Laid BY PROGRAM, IN A SANDBOX (cutbox-rows.mjs): the forced cells as the released guide's own fill.sh prints them over the translation 7910e3378a16f636… (all of the seat's roots in one cut). By AI agents, Wed Nov 11 2026. No macro, syntax, notation, axiom, sorry.
-/
import Derived.Test.YtaeglelhoenfgaaChecked
import GoSem.Claim
import GoSem.ClaimJoined
import GoSem.ClaimMapViews
import Derived.JoinedTies
import Derived.KernelRfl
namespace Go.Proofs.Ytaeglelhoenfgaa
/- THE CELL 'sum', in the pinned program and in every row, IS THE sha256 OF THE DUMP (.gsa) THAT YtaeglelhoenfgaaProg.lean LOADS. Nothing in Lean hashes anything: it is a label: what it is worth is what the hold of that sum in a sandbox is worth. -/
noncomputable def Try.pinned : Pinned := { name := "ytaeglelhoenfgaa", sum := "7910e3378a16f6367fa1a570db58adcb104bf90246b9594615f566e126dcec0f", checked := Try.checked }
namespace Rows
def none {H : Type} : Left H := { results := [], args := [] }

/-- 'cotterellaw34.FwdCuts': WHATEVER THE INPUT: true; the input reads as it did. -/
def fwdCutsSpec : ChangeSpec := { name := "fwdCuts", fn := fun _ => fun
  | [d1, d2, d3] => { results := [.lit (.bool true)], args := [d1, d2, d3] }
  | _ => none }
def fwdCutsRow : OpenClaim := { program := "ytaeglelhoenfgaa", sum := "7910e3378a16f6367fa1a570db58adcb104bf90246b9594615f566e126dcec0f", func := "cotterel/cotterellaw34.FwdCuts", spec := "fwdCuts", unfollowed := true, recurses := true, apart := false }
def FwdCutsSaid : Prop := fwdCutsRow.holds Try.pinned (OpenSpec.ofChange fwdCutsSpec)

/-- ITS FALSE NEIGHBOUR: 'it returns false'. Refute it at one input. -/
def fwdCutsWrong : ChangeSpec := { name := "fwdCuts", fn := fun _ => fun
  | [d1, d2, d3] => { results := [.lit (.bool false)], args := [d1, d2, d3] }
  | _ => none }
def FwdCutsWrongFalsely : Prop := fwdCutsRow.holds Try.pinned (OpenSpec.ofChange fwdCutsWrong)

/-- 'cotterellaw34.FwdFinds': WHATEVER THE INPUT: true; the input reads as it did. -/
def fwdFindsSpec : ChangeSpec := { name := "fwdFinds", fn := fun _ => fun
  | [d1, d2, d3] => { results := [.lit (.bool true)], args := [d1, d2, d3] }
  | _ => none }
def fwdFindsRow : OpenClaim := { program := "ytaeglelhoenfgaa", sum := "7910e3378a16f6367fa1a570db58adcb104bf90246b9594615f566e126dcec0f", func := "cotterel/cotterellaw34.FwdFinds", spec := "fwdFinds", unfollowed := true, recurses := true, apart := false }
def FwdFindsSaid : Prop := fwdFindsRow.holds Try.pinned (OpenSpec.ofChange fwdFindsSpec)

/-- ITS FALSE NEIGHBOUR: 'it returns false'. Refute it at one input. -/
def fwdFindsWrong : ChangeSpec := { name := "fwdFinds", fn := fun _ => fun
  | [d1, d2, d3] => { results := [.lit (.bool false)], args := [d1, d2, d3] }
  | _ => none }
def FwdFindsWrongFalsely : Prop := fwdFindsRow.holds Try.pinned (OpenSpec.ofChange fwdFindsWrong)

/-- 'cotterellaw34.FwdAligned': WHATEVER THE INPUT: true; the input reads as it did. -/
def fwdAlignedSpec : ChangeSpec := { name := "fwdAligned", fn := fun _ => fun
  | [d1, d2, d3] => { results := [.lit (.bool true)], args := [d1, d2, d3] }
  | _ => none }
def fwdAlignedRow : OpenClaim := { program := "ytaeglelhoenfgaa", sum := "7910e3378a16f6367fa1a570db58adcb104bf90246b9594615f566e126dcec0f", func := "cotterel/cotterellaw34.FwdAligned", spec := "fwdAligned", unfollowed := true, recurses := true, apart := false }
def FwdAlignedSaid : Prop := fwdAlignedRow.holds Try.pinned (OpenSpec.ofChange fwdAlignedSpec)

/-- ITS FALSE NEIGHBOUR: 'it returns false'. Refute it at one input. -/
def fwdAlignedWrong : ChangeSpec := { name := "fwdAligned", fn := fun _ => fun
  | [d1, d2, d3] => { results := [.lit (.bool false)], args := [d1, d2, d3] }
  | _ => none }
def FwdAlignedWrongFalsely : Prop := fwdAlignedRow.holds Try.pinned (OpenSpec.ofChange fwdAlignedWrong)

/-- 'cotterellaw34.FwdBytes': WHATEVER THE INPUT: true; the input reads as it did. -/
def fwdBytesSpec : ChangeSpec := { name := "fwdBytes", fn := fun _ => fun
  | [d1, d2, d3] => { results := [.lit (.bool true)], args := [d1, d2, d3] }
  | _ => none }
def fwdBytesRow : OpenClaim := { program := "ytaeglelhoenfgaa", sum := "7910e3378a16f6367fa1a570db58adcb104bf90246b9594615f566e126dcec0f", func := "cotterel/cotterellaw34.FwdBytes", spec := "fwdBytes", unfollowed := true, recurses := true, apart := false }
def FwdBytesSaid : Prop := fwdBytesRow.holds Try.pinned (OpenSpec.ofChange fwdBytesSpec)

/-- ITS FALSE NEIGHBOUR: 'it returns false'. Refute it at one input. -/
def fwdBytesWrong : ChangeSpec := { name := "fwdBytes", fn := fun _ => fun
  | [d1, d2, d3] => { results := [.lit (.bool false)], args := [d1, d2, d3] }
  | _ => none }
def FwdBytesWrongFalsely : Prop := fwdBytesRow.holds Try.pinned (OpenSpec.ofChange fwdBytesWrong)

/-- 'cotterellaw34.FwdRight': WHATEVER THE INPUT: true; the input reads as it did. -/
def fwdRightSpec : ChangeSpec := { name := "fwdRight", fn := fun _ => fun
  | [d1, d2, d3] => { results := [.lit (.bool true)], args := [d1, d2, d3] }
  | _ => none }
def fwdRightRow : OpenClaim := { program := "ytaeglelhoenfgaa", sum := "7910e3378a16f6367fa1a570db58adcb104bf90246b9594615f566e126dcec0f", func := "cotterel/cotterellaw34.FwdRight", spec := "fwdRight", unfollowed := true, recurses := true, apart := false }
def FwdRightSaid : Prop := fwdRightRow.holds Try.pinned (OpenSpec.ofChange fwdRightSpec)

/-- ITS FALSE NEIGHBOUR: 'it returns false'. Refute it at one input. -/
def fwdRightWrong : ChangeSpec := { name := "fwdRight", fn := fun _ => fun
  | [d1, d2, d3] => { results := [.lit (.bool false)], args := [d1, d2, d3] }
  | _ => none }
def FwdRightWrongFalsely : Prop := fwdRightRow.holds Try.pinned (OpenSpec.ofChange fwdRightWrong)

/- THE SECOND FORM. 'bulk': how many values and letters a reading holds, each counted each time it is reached (what is shared counts as often as it is met; a slice's spare places count too). A statement '..UptoSaid' is the law's where the arguments, and the package variables that the reading takes, are together of bulk at most 1048576: NARROWER than '..Said'. Prove '..Said' where nothing that the law and all that it calls make is longer than what came in: it says more and counts as full. Else prove '..UptoSaid'. A law counts once. -/
mutual
def uptoBulk {H : Type} : DataW H → Nat
  | .lit (.string bytes) => bytes.length + 1
  | .lit _ => 1
  | .nil => 1
  | .ptr d => uptoBulk d + 1
  | .slice elems spare => uptoBulkAll elems + uptoBulkAll spare + 1
  | .agg parts => uptoBulkAll parts + 1
  | .iface _ d => uptoBulk d + 1
  | .map entries => uptoBulkEntries entries + 1
  | .held _ => 1
def uptoBulkAll {H : Type} : List (DataW H) → Nat
  | [] => 0
  | d :: r => uptoBulk d + uptoBulkAll r
def uptoBulkEntries {H : Type} : List (Lit × DataW H) → Nat
  | [] => 0
  | x :: r => uptoBulkEntry x + uptoBulkEntries r
def uptoBulkEntry {H : Type} : Lit × DataW H → Nat
  | (.string bytes, d) => bytes.length + uptoBulk d + 1
  | (_, d) => uptoBulk d + 1
 end
def uptoSmall : (H : Type) → List (DataW H) → Bool := fun _ ds => decide (uptoBulkAll ds ≤ 1048576)
def OpenSpec.upto (s : _root_.Go.ChangeSpec) : _root_.Go.OpenSpec := { _root_.Go.OpenSpec.ofChange s with cond := some uptoSmall }

/-- 'cotterellaw34.FwdCuts', WHERE WHAT IT READS IS OF BULK AT MOST 1048576: true; the input reads as it did. -/
def fwdCutsUptoRow : OpenClaim := { program := "ytaeglelhoenfgaa", sum := "7910e3378a16f6367fa1a570db58adcb104bf90246b9594615f566e126dcec0f", func := "cotterel/cotterellaw34.FwdCuts", spec := "fwdCuts", unfollowed := true, recurses := true, apart := false, narrowed := true }
def FwdCutsUptoSaid : Prop := fwdCutsUptoRow.holds Try.pinned (OpenSpec.upto fwdCutsSpec)

/-- 'cotterellaw34.FwdFinds', WHERE WHAT IT READS IS OF BULK AT MOST 1048576: true; the input reads as it did. -/
def fwdFindsUptoRow : OpenClaim := { program := "ytaeglelhoenfgaa", sum := "7910e3378a16f6367fa1a570db58adcb104bf90246b9594615f566e126dcec0f", func := "cotterel/cotterellaw34.FwdFinds", spec := "fwdFinds", unfollowed := true, recurses := true, apart := false, narrowed := true }
def FwdFindsUptoSaid : Prop := fwdFindsUptoRow.holds Try.pinned (OpenSpec.upto fwdFindsSpec)

/-- 'cotterellaw34.FwdAligned', WHERE WHAT IT READS IS OF BULK AT MOST 1048576: true; the input reads as it did. -/
def fwdAlignedUptoRow : OpenClaim := { program := "ytaeglelhoenfgaa", sum := "7910e3378a16f6367fa1a570db58adcb104bf90246b9594615f566e126dcec0f", func := "cotterel/cotterellaw34.FwdAligned", spec := "fwdAligned", unfollowed := true, recurses := true, apart := false, narrowed := true }
def FwdAlignedUptoSaid : Prop := fwdAlignedUptoRow.holds Try.pinned (OpenSpec.upto fwdAlignedSpec)

/-- 'cotterellaw34.FwdBytes', WHERE WHAT IT READS IS OF BULK AT MOST 1048576: true; the input reads as it did. -/
def fwdBytesUptoRow : OpenClaim := { program := "ytaeglelhoenfgaa", sum := "7910e3378a16f6367fa1a570db58adcb104bf90246b9594615f566e126dcec0f", func := "cotterel/cotterellaw34.FwdBytes", spec := "fwdBytes", unfollowed := true, recurses := true, apart := false, narrowed := true }
def FwdBytesUptoSaid : Prop := fwdBytesUptoRow.holds Try.pinned (OpenSpec.upto fwdBytesSpec)

/-- 'cotterellaw34.FwdRight', WHERE WHAT IT READS IS OF BULK AT MOST 1048576: true; the input reads as it did. -/
def fwdRightUptoRow : OpenClaim := { program := "ytaeglelhoenfgaa", sum := "7910e3378a16f6367fa1a570db58adcb104bf90246b9594615f566e126dcec0f", func := "cotterel/cotterellaw34.FwdRight", spec := "fwdRight", unfollowed := true, recurses := true, apart := false, narrowed := true }
def FwdRightUptoSaid : Prop := fwdRightUptoRow.holds Try.pinned (OpenSpec.upto fwdRightSpec)

end Rows
end Go.Proofs.Ytaeglelhoenfgaa
