/-
  No cell of these rows narrows 'for every input' (looked for: loops, veiled, ifaces, maps, wideKeys, modest, calm, conditions, laid).
  DERIVED. THE GIVEN ROWS OF THIS SEAT. 4 by the template 'for every input the law returns true; each argument reads behind the call as it read before'; 0 by the template 'total and deterministic' (their statements: YtgacdbaegjnlfaaTotals.lean).
  GIVEN WITH THE SEED: the statements are not yours to turn. If you find one false, say at which input.
  Laid BY PROGRAM, IN A SANDBOX (cutbox-rows.mjs): the forced cells as the released guide's own fill.sh prints them over the translation ae447bd2e57c4d06… (all of the seat's roots in one cut). By AI agents, Wed Nov 11 2026. No macro, syntax, notation, axiom, sorry.
-/
import Derived.Test.YtgacdbaegjnlfaaChecked
import GoSem.Claim
import GoSem.ClaimJoined
import GoSem.ClaimMapViews
import Derived.JoinedTies
import Derived.KernelRfl
namespace Go.Proofs.Ytgacdbaegjnlfaa
/- THE CELL 'sum', in the pinned program and in every row, IS THE sha256 OF THE DUMP (.gsa) THAT YtgacdbaegjnlfaaProg.lean LOADS. Nothing in Lean hashes anything: it is a label: what it is worth is what the hold of that sum in a sandbox is worth. -/
noncomputable def Try.pinned : Pinned := { name := "ytgacdbaegjnlfaa", sum := "ae447bd2e57c4d064649e649fed8005323a455512772ec07b6c6962967c8a798", checked := Try.checked }
namespace Rows
def none {H : Type} : Left H := { results := [], args := [] }

/-- 'cotterellaw19.BtbFinds': WHATEVER THE INPUT: true; the input reads as it did. -/
def btbFindsSpec : ChangeSpec := { name := "btbFinds", fn := fun _ => fun
  | [d1, d2, d3] => { results := [.lit (.bool true)], args := [d1, d2, d3] }
  | _ => none }
def btbFindsRow : OpenClaim := { program := "ytgacdbaegjnlfaa", sum := "ae447bd2e57c4d064649e649fed8005323a455512772ec07b6c6962967c8a798", func := "cotterel/cotterellaw19.BtbFinds", spec := "btbFinds", apart := false }
def BtbFindsSaid : Prop := btbFindsRow.holds Try.pinned (OpenSpec.ofChange btbFindsSpec)

/-- ITS FALSE NEIGHBOUR: 'it returns false'. Refute it at one input. -/
def btbFindsWrong : ChangeSpec := { name := "btbFinds", fn := fun _ => fun
  | [d1, d2, d3] => { results := [.lit (.bool false)], args := [d1, d2, d3] }
  | _ => none }
def BtbFindsWrongFalsely : Prop := btbFindsRow.holds Try.pinned (OpenSpec.ofChange btbFindsWrong)

/-- 'cotterellaw19.BtbPuts': WHATEVER THE INPUT: true; the input reads as it did. -/
def btbPutsSpec : ChangeSpec := { name := "btbPuts", fn := fun _ => fun
  | [d1, d2, d3] => { results := [.lit (.bool true)], args := [d1, d2, d3] }
  | _ => none }
def btbPutsRow : OpenClaim := { program := "ytgacdbaegjnlfaa", sum := "ae447bd2e57c4d064649e649fed8005323a455512772ec07b6c6962967c8a798", func := "cotterel/cotterellaw19.BtbPuts", spec := "btbPuts", apart := false }
def BtbPutsSaid : Prop := btbPutsRow.holds Try.pinned (OpenSpec.ofChange btbPutsSpec)

/-- ITS FALSE NEIGHBOUR: 'it returns false'. Refute it at one input. -/
def btbPutsWrong : ChangeSpec := { name := "btbPuts", fn := fun _ => fun
  | [d1, d2, d3] => { results := [.lit (.bool false)], args := [d1, d2, d3] }
  | _ => none }
def BtbPutsWrongFalsely : Prop := btbPutsRow.holds Try.pinned (OpenSpec.ofChange btbPutsWrong)

/-- 'cotterellaw19.BtbKinds': WHATEVER THE INPUT: true; the input reads as it did. -/
def btbKindsSpec : ChangeSpec := { name := "btbKinds", fn := fun _ => fun
  | [d1, d2] => { results := [.lit (.bool true)], args := [d1, d2] }
  | _ => none }
def btbKindsRow : OpenClaim := { program := "ytgacdbaegjnlfaa", sum := "ae447bd2e57c4d064649e649fed8005323a455512772ec07b6c6962967c8a798", func := "cotterel/cotterellaw19.BtbKinds", spec := "btbKinds", apart := false }
def BtbKindsSaid : Prop := btbKindsRow.holds Try.pinned (OpenSpec.ofChange btbKindsSpec)

/-- ITS FALSE NEIGHBOUR: 'it returns false'. Refute it at one input. -/
def btbKindsWrong : ChangeSpec := { name := "btbKinds", fn := fun _ => fun
  | [d1, d2] => { results := [.lit (.bool false)], args := [d1, d2] }
  | _ => none }
def BtbKindsWrongFalsely : Prop := btbKindsRow.holds Try.pinned (OpenSpec.ofChange btbKindsWrong)

/-- 'cotterellaw19.BtbKeeps': WHATEVER THE INPUT: true; the input reads as it did. -/
def btbKeepsSpec : ChangeSpec := { name := "btbKeeps", fn := fun _ => fun
  | [d1, d2] => { results := [.lit (.bool true)], args := [d1, d2] }
  | _ => none }
def btbKeepsRow : OpenClaim := { program := "ytgacdbaegjnlfaa", sum := "ae447bd2e57c4d064649e649fed8005323a455512772ec07b6c6962967c8a798", func := "cotterel/cotterellaw19.BtbKeeps", spec := "btbKeeps", apart := false }
def BtbKeepsSaid : Prop := btbKeepsRow.holds Try.pinned (OpenSpec.ofChange btbKeepsSpec)

/-- ITS FALSE NEIGHBOUR: 'it returns false'. Refute it at one input. -/
def btbKeepsWrong : ChangeSpec := { name := "btbKeeps", fn := fun _ => fun
  | [d1, d2] => { results := [.lit (.bool false)], args := [d1, d2] }
  | _ => none }
def BtbKeepsWrongFalsely : Prop := btbKeepsRow.holds Try.pinned (OpenSpec.ofChange btbKeepsWrong)

/- THE SECOND FORM. 'bulk': how many values and letters a reading holds, each counted each time it is reached (what is shared counts as often as it is met; a slice's spare places count too). A statement '..UptoSaid' is the law's where the arguments, and the package variables that the reading takes, are together of bulk at most 1048576: NARROWER than '..Said'. Prove '..Said' where nothing that the law and all that it calls make is longer than what came in: it says more and counts as full. Else prove '..UptoSaid'. A law counts once. -/
mutual
def uptoBulk {H : Type} : DataW H → Nat
  | .lit (.string bytes) => bytes.length + 1
  | .lit _ => 1
  | .nil => 1
  | .ptr d => uptoBulk d + 1
  | .slice elems spare => uptoBulkAll elems + uptoBulkAll spare + 1
  | .agg parts => uptoBulkAll parts + 1
  | .iface _ d => uptoBulk d + 1
  | .map entries => uptoBulkEntries entries + 1
  | .held _ => 1
def uptoBulkAll {H : Type} : List (DataW H) → Nat
  | [] => 0
  | d :: r => uptoBulk d + uptoBulkAll r
def uptoBulkEntries {H : Type} : List (Lit × DataW H) → Nat
  | [] => 0
  | x :: r => uptoBulkEntry x + uptoBulkEntries r
def uptoBulkEntry {H : Type} : Lit × DataW H → Nat
  | (.string bytes, d) => bytes.length + uptoBulk d + 1
  | (_, d) => uptoBulk d + 1
 end
def uptoSmall : (H : Type) → List (DataW H) → Bool := fun _ ds => decide (uptoBulkAll ds ≤ 1048576)
def OpenSpec.upto (s : _root_.Go.ChangeSpec) : _root_.Go.OpenSpec := { _root_.Go.OpenSpec.ofChange s with cond := some uptoSmall }

/-- 'cotterellaw19.BtbFinds', WHERE WHAT IT READS IS OF BULK AT MOST 1048576: true; the input reads as it did. -/
def btbFindsUptoRow : OpenClaim := { program := "ytgacdbaegjnlfaa", sum := "ae447bd2e57c4d064649e649fed8005323a455512772ec07b6c6962967c8a798", func := "cotterel/cotterellaw19.BtbFinds", spec := "btbFinds", apart := false, narrowed := true }
def BtbFindsUptoSaid : Prop := btbFindsUptoRow.holds Try.pinned (OpenSpec.upto btbFindsSpec)

/-- 'cotterellaw19.BtbPuts', WHERE WHAT IT READS IS OF BULK AT MOST 1048576: true; the input reads as it did. -/
def btbPutsUptoRow : OpenClaim := { program := "ytgacdbaegjnlfaa", sum := "ae447bd2e57c4d064649e649fed8005323a455512772ec07b6c6962967c8a798", func := "cotterel/cotterellaw19.BtbPuts", spec := "btbPuts", apart := false, narrowed := true }
def BtbPutsUptoSaid : Prop := btbPutsUptoRow.holds Try.pinned (OpenSpec.upto btbPutsSpec)

/-- 'cotterellaw19.BtbKinds', WHERE WHAT IT READS IS OF BULK AT MOST 1048576: true; the input reads as it did. -/
def btbKindsUptoRow : OpenClaim := { program := "ytgacdbaegjnlfaa", sum := "ae447bd2e57c4d064649e649fed8005323a455512772ec07b6c6962967c8a798", func := "cotterel/cotterellaw19.BtbKinds", spec := "btbKinds", apart := false, narrowed := true }
def BtbKindsUptoSaid : Prop := btbKindsUptoRow.holds Try.pinned (OpenSpec.upto btbKindsSpec)

/-- 'cotterellaw19.BtbKeeps', WHERE WHAT IT READS IS OF BULK AT MOST 1048576: true; the input reads as it did. -/
def btbKeepsUptoRow : OpenClaim := { program := "ytgacdbaegjnlfaa", sum := "ae447bd2e57c4d064649e649fed8005323a455512772ec07b6c6962967c8a798", func := "cotterel/cotterellaw19.BtbKeeps", spec := "btbKeeps", apart := false, narrowed := true }
def BtbKeepsUptoSaid : Prop := btbKeepsUptoRow.holds Try.pinned (OpenSpec.upto btbKeepsSpec)

end Rows
end Go.Proofs.Ytgacdbaegjnlfaa
