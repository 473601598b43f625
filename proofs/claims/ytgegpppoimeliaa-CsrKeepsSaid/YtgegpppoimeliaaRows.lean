/-
  No cell of these rows narrows 'for every input' (looked for: loops, veiled, ifaces, maps, wideKeys, modest, calm, conditions, laid).
  DERIVED. THE GIVEN ROWS OF THIS SEAT. 5 by the template 'for every input the law returns true; each argument reads behind the call as it read before'; 0 by the template 'total and deterministic' (their statements: YtgegpppoimeliaaTotals.lean).
  GIVEN WITH THE SEED: the statements are not yours to turn. If you find one false, say at which input.
  Laid BY PROGRAM, IN A SANDBOX (cutbox-rows.mjs): the forced cells as the released guide's own fill.sh prints them over the translation 2cef95adef271325… (all of the seat's roots in one cut). By AI agents, Wed Nov 11 2026. No macro, syntax, notation, axiom, sorry.
-/
import Derived.Test.YtgegpppoimeliaaChecked
import GoSem.Claim
import GoSem.ClaimJoined
import GoSem.ClaimMapViews
import Derived.JoinedTies
import Derived.KernelRfl
namespace Go.Proofs.Ytgegpppoimeliaa
/- THE CELL 'sum', in the pinned program and in every row, IS THE sha256 OF THE DUMP (.gsa) THAT YtgegpppoimeliaaProg.lean LOADS. Nothing in Lean hashes anything: it is a label: what it is worth is what the hold of that sum in a sandbox is worth. -/
noncomputable def Try.pinned : Pinned := { name := "ytgegpppoimeliaa", sum := "2cef95adef271325554c47064e056545e14117c8d4109e80c744e98c10fccabc", checked := Try.checked }
namespace Rows
def none {H : Type} : Left H := { results := [], args := [] }

/-- 'cotterellaw11.CsrWrites': WHATEVER THE INPUT: true; the input reads as it did. -/
def csrWritesSpec : ChangeSpec := { name := "csrWrites", fn := fun _ => fun
  | [d1, d2, d3] => { results := [.lit (.bool true)], args := [d1, d2, d3] }
  | _ => none }
def csrWritesRow : OpenClaim := { program := "ytgegpppoimeliaa", sum := "2cef95adef271325554c47064e056545e14117c8d4109e80c744e98c10fccabc", func := "cotterel/cotterellaw11.CsrWrites", spec := "csrWrites", apart := false }
def CsrWritesSaid : Prop := csrWritesRow.holds Try.pinned (OpenSpec.ofChange csrWritesSpec)

/-- ITS FALSE NEIGHBOUR: 'it returns false'. Refute it at one input. -/
def csrWritesWrong : ChangeSpec := { name := "csrWrites", fn := fun _ => fun
  | [d1, d2, d3] => { results := [.lit (.bool false)], args := [d1, d2, d3] }
  | _ => none }
def CsrWritesWrongFalsely : Prop := csrWritesRow.holds Try.pinned (OpenSpec.ofChange csrWritesWrong)

/-- 'cotterellaw11.CsrCounts': WHATEVER THE INPUT: true; the input reads as it did. -/
def csrCountsSpec : ChangeSpec := { name := "csrCounts", fn := fun _ => fun
  | [d1, d2] => { results := [.lit (.bool true)], args := [d1, d2] }
  | _ => none }
def csrCountsRow : OpenClaim := { program := "ytgegpppoimeliaa", sum := "2cef95adef271325554c47064e056545e14117c8d4109e80c744e98c10fccabc", func := "cotterel/cotterellaw11.CsrCounts", spec := "csrCounts", apart := false }
def CsrCountsSaid : Prop := csrCountsRow.holds Try.pinned (OpenSpec.ofChange csrCountsSpec)

/-- ITS FALSE NEIGHBOUR: 'it returns false'. Refute it at one input. -/
def csrCountsWrong : ChangeSpec := { name := "csrCounts", fn := fun _ => fun
  | [d1, d2] => { results := [.lit (.bool false)], args := [d1, d2] }
  | _ => none }
def CsrCountsWrongFalsely : Prop := csrCountsRow.holds Try.pinned (OpenSpec.ofChange csrCountsWrong)

/-- 'cotterellaw11.CsrKeeps': WHATEVER THE INPUT: true; the input reads as it did. -/
def csrKeepsSpec : ChangeSpec := { name := "csrKeeps", fn := fun _ => fun
  | [d1, d2] => { results := [.lit (.bool true)], args := [d1, d2] }
  | _ => none }
def csrKeepsRow : OpenClaim := { program := "ytgegpppoimeliaa", sum := "2cef95adef271325554c47064e056545e14117c8d4109e80c744e98c10fccabc", func := "cotterel/cotterellaw11.CsrKeeps", spec := "csrKeeps", apart := false }
def CsrKeepsSaid : Prop := csrKeepsRow.holds Try.pinned (OpenSpec.ofChange csrKeepsSpec)

/-- ITS FALSE NEIGHBOUR: 'it returns false'. Refute it at one input. -/
def csrKeepsWrong : ChangeSpec := { name := "csrKeeps", fn := fun _ => fun
  | [d1, d2] => { results := [.lit (.bool false)], args := [d1, d2] }
  | _ => none }
def CsrKeepsWrongFalsely : Prop := csrKeepsRow.holds Try.pinned (OpenSpec.ofChange csrKeepsWrong)

/-- 'cotterellaw11.CsrReads': WHATEVER THE INPUT: true; the input reads as it did. -/
def csrReadsSpec : ChangeSpec := { name := "csrReads", fn := fun _ => fun
  | [d1, d2] => { results := [.lit (.bool true)], args := [d1, d2] }
  | _ => none }
def csrReadsRow : OpenClaim := { program := "ytgegpppoimeliaa", sum := "2cef95adef271325554c47064e056545e14117c8d4109e80c744e98c10fccabc", func := "cotterel/cotterellaw11.CsrReads", spec := "csrReads", apart := false }
def CsrReadsSaid : Prop := csrReadsRow.holds Try.pinned (OpenSpec.ofChange csrReadsSpec)

/-- ITS FALSE NEIGHBOUR: 'it returns false'. Refute it at one input. -/
def csrReadsWrong : ChangeSpec := { name := "csrReads", fn := fun _ => fun
  | [d1, d2] => { results := [.lit (.bool false)], args := [d1, d2] }
  | _ => none }
def CsrReadsWrongFalsely : Prop := csrReadsRow.holds Try.pinned (OpenSpec.ofChange csrReadsWrong)

/-- 'cotterellaw11.CsrBack': WHATEVER THE INPUT: true; the input reads as it did. -/
def csrBackSpec : ChangeSpec := { name := "csrBack", fn := fun _ => fun
  | [d1, d2, d3] => { results := [.lit (.bool true)], args := [d1, d2, d3] }
  | _ => none }
def csrBackRow : OpenClaim := { program := "ytgegpppoimeliaa", sum := "2cef95adef271325554c47064e056545e14117c8d4109e80c744e98c10fccabc", func := "cotterel/cotterellaw11.CsrBack", spec := "csrBack", apart := false }
def CsrBackSaid : Prop := csrBackRow.holds Try.pinned (OpenSpec.ofChange csrBackSpec)

/-- ITS FALSE NEIGHBOUR: 'it returns false'. Refute it at one input. -/
def csrBackWrong : ChangeSpec := { name := "csrBack", fn := fun _ => fun
  | [d1, d2, d3] => { results := [.lit (.bool false)], args := [d1, d2, d3] }
  | _ => none }
def CsrBackWrongFalsely : Prop := csrBackRow.holds Try.pinned (OpenSpec.ofChange csrBackWrong)

/- THE SECOND FORM. 'bulk': how many values and letters a reading holds, each counted each time it is reached (what is shared counts as often as it is met; a slice's spare places count too). A statement '..UptoSaid' is the law's where the arguments, and the package variables that the reading takes, are together of bulk at most 1048576: NARROWER than '..Said'. Prove '..Said' where nothing that the law and all that it calls make is longer than what came in: it says more and counts as full. Else prove '..UptoSaid'. A law counts once. -/
mutual
def uptoBulk {H : Type} : DataW H → Nat
  | .lit (.string bytes) => bytes.length + 1
  | .lit _ => 1
  | .nil => 1
  | .ptr d => uptoBulk d + 1
  | .slice elems spare => uptoBulkAll elems + uptoBulkAll spare + 1
  | .agg parts => uptoBulkAll parts + 1
  | .iface _ d => uptoBulk d + 1
  | .map entries => uptoBulkEntries entries + 1
  | .held _ => 1
def uptoBulkAll {H : Type} : List (DataW H) → Nat
  | [] => 0
  | d :: r => uptoBulk d + uptoBulkAll r
def uptoBulkEntries {H : Type} : List (Lit × DataW H) → Nat
  | [] => 0
  | x :: r => uptoBulkEntry x + uptoBulkEntries r
def uptoBulkEntry {H : Type} : Lit × DataW H → Nat
  | (.string bytes, d) => bytes.length + uptoBulk d + 1
  | (_, d) => uptoBulk d + 1
 end
def uptoSmall : (H : Type) → List (DataW H) → Bool := fun _ ds => decide (uptoBulkAll ds ≤ 1048576)
def OpenSpec.upto (s : _root_.Go.ChangeSpec) : _root_.Go.OpenSpec := { _root_.Go.OpenSpec.ofChange s with cond := some uptoSmall }

/-- 'cotterellaw11.CsrWrites', WHERE WHAT IT READS IS OF BULK AT MOST 1048576: true; the input reads as it did. -/
def csrWritesUptoRow : OpenClaim := { program := "ytgegpppoimeliaa", sum := "2cef95adef271325554c47064e056545e14117c8d4109e80c744e98c10fccabc", func := "cotterel/cotterellaw11.CsrWrites", spec := "csrWrites", apart := false, narrowed := true }
def CsrWritesUptoSaid : Prop := csrWritesUptoRow.holds Try.pinned (OpenSpec.upto csrWritesSpec)

/-- 'cotterellaw11.CsrCounts', WHERE WHAT IT READS IS OF BULK AT MOST 1048576: true; the input reads as it did. -/
def csrCountsUptoRow : OpenClaim := { program := "ytgegpppoimeliaa", sum := "2cef95adef271325554c47064e056545e14117c8d4109e80c744e98c10fccabc", func := "cotterel/cotterellaw11.CsrCounts", spec := "csrCounts", apart := false, narrowed := true }
def CsrCountsUptoSaid : Prop := csrCountsUptoRow.holds Try.pinned (OpenSpec.upto csrCountsSpec)

/-- 'cotterellaw11.CsrKeeps', WHERE WHAT IT READS IS OF BULK AT MOST 1048576: true; the input reads as it did. -/
def csrKeepsUptoRow : OpenClaim := { program := "ytgegpppoimeliaa", sum := "2cef95adef271325554c47064e056545e14117c8d4109e80c744e98c10fccabc", func := "cotterel/cotterellaw11.CsrKeeps", spec := "csrKeeps", apart := false, narrowed := true }
def CsrKeepsUptoSaid : Prop := csrKeepsUptoRow.holds Try.pinned (OpenSpec.upto csrKeepsSpec)

/-- 'cotterellaw11.CsrReads', WHERE WHAT IT READS IS OF BULK AT MOST 1048576: true; the input reads as it did. -/
def csrReadsUptoRow : OpenClaim := { program := "ytgegpppoimeliaa", sum := "2cef95adef271325554c47064e056545e14117c8d4109e80c744e98c10fccabc", func := "cotterel/cotterellaw11.CsrReads", spec := "csrReads", apart := false, narrowed := true }
def CsrReadsUptoSaid : Prop := csrReadsUptoRow.holds Try.pinned (OpenSpec.upto csrReadsSpec)

/-- 'cotterellaw11.CsrBack', WHERE WHAT IT READS IS OF BULK AT MOST 1048576: true; the input reads as it did. -/
def csrBackUptoRow : OpenClaim := { program := "ytgegpppoimeliaa", sum := "2cef95adef271325554c47064e056545e14117c8d4109e80c744e98c10fccabc", func := "cotterel/cotterellaw11.CsrBack", spec := "csrBack", apart := false, narrowed := true }
def CsrBackUptoSaid : Prop := csrBackUptoRow.holds Try.pinned (OpenSpec.upto csrBackSpec)

end Rows
end Go.Proofs.Ytgegpppoimeliaa
