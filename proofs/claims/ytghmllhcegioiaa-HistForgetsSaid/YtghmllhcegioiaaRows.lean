/-
  No cell of these rows narrows 'for every input' (looked for: loops, veiled, ifaces, maps, wideKeys, modest, calm, conditions, laid).
  DERIVED. THE GIVEN ROWS OF THIS SEAT. 8 by the template 'for every input the law returns true; each argument reads behind the call as it read before'; 0 by the template 'total and deterministic' (their statements: YtghmllhcegioiaaTotals.lean).
  GIVEN WITH THE SEED: the statements are not yours to turn. If you find one false, say at which input.
  Laid BY PROGRAM, IN A SANDBOX (cutbox-rows.mjs): the forced cells as the released guide's own fill.sh prints them over the translation a9d1809d4e99d5d2… (all of the seat's roots in one cut). By AI agents, Wed Nov 11 2026. No macro, syntax, notation, axiom, sorry.
-/
import Derived.Test.YtghmllhcegioiaaChecked
import GoSem.Claim
import GoSem.ClaimJoined
import GoSem.ClaimMapViews
import Derived.JoinedTies
import Derived.KernelRfl
namespace Go.Proofs.Ytghmllhcegioiaa
/- THE CELL 'sum', in the pinned program and in every row, IS THE sha256 OF THE DUMP (.gsa) THAT YtghmllhcegioiaaProg.lean LOADS. Nothing in Lean hashes anything: it is a label: what it is worth is what the hold of that sum in a sandbox is worth. -/
noncomputable def Try.pinned : Pinned := { name := "ytghmllhcegioiaa", sum := "a9d1809d4e99d5d24d0a91736b0e1cef0d6aa256b12d4fd42ddb0868f2f4341a", checked := Try.checked }
namespace Rows
def none {H : Type} : Left H := { results := [], args := [] }

/-- 'cotterellaw17.HistTells': WHATEVER THE INPUT: true; the input reads as it did. -/
def histTellsSpec : ChangeSpec := { name := "histTells", fn := fun _ => fun
  | [d1, d2, d3] => { results := [.lit (.bool true)], args := [d1, d2, d3] }
  | _ => none }
def histTellsRow : OpenClaim := { program := "ytghmllhcegioiaa", sum := "a9d1809d4e99d5d24d0a91736b0e1cef0d6aa256b12d4fd42ddb0868f2f4341a", func := "cotterel/cotterellaw17.HistTells", spec := "histTells", apart := false }
def HistTellsSaid : Prop := histTellsRow.holds Try.pinned (OpenSpec.ofChange histTellsSpec)

/-- ITS FALSE NEIGHBOUR: 'it returns false'. Refute it at one input. -/
def histTellsWrong : ChangeSpec := { name := "histTells", fn := fun _ => fun
  | [d1, d2, d3] => { results := [.lit (.bool false)], args := [d1, d2, d3] }
  | _ => none }
def HistTellsWrongFalsely : Prop := histTellsRow.holds Try.pinned (OpenSpec.ofChange histTellsWrong)

/-- 'cotterellaw17.HistLast': WHATEVER THE INPUT: true; the input reads as it did. -/
def histLastSpec : ChangeSpec := { name := "histLast", fn := fun _ => fun
  | [d1, d2, d3] => { results := [.lit (.bool true)], args := [d1, d2, d3] }
  | _ => none }
def histLastRow : OpenClaim := { program := "ytghmllhcegioiaa", sum := "a9d1809d4e99d5d24d0a91736b0e1cef0d6aa256b12d4fd42ddb0868f2f4341a", func := "cotterel/cotterellaw17.HistLast", spec := "histLast", apart := false }
def HistLastSaid : Prop := histLastRow.holds Try.pinned (OpenSpec.ofChange histLastSpec)

/-- ITS FALSE NEIGHBOUR: 'it returns false'. Refute it at one input. -/
def histLastWrong : ChangeSpec := { name := "histLast", fn := fun _ => fun
  | [d1, d2, d3] => { results := [.lit (.bool false)], args := [d1, d2, d3] }
  | _ => none }
def HistLastWrongFalsely : Prop := histLastRow.holds Try.pinned (OpenSpec.ofChange histLastWrong)

/-- 'cotterellaw17.HistForgets': WHATEVER THE INPUT: true; the input reads as it did. -/
def histForgetsSpec : ChangeSpec := { name := "histForgets", fn := fun _ => fun
  | [d1, d2, d3] => { results := [.lit (.bool true)], args := [d1, d2, d3] }
  | _ => none }
def histForgetsRow : OpenClaim := { program := "ytghmllhcegioiaa", sum := "a9d1809d4e99d5d24d0a91736b0e1cef0d6aa256b12d4fd42ddb0868f2f4341a", func := "cotterel/cotterellaw17.HistForgets", spec := "histForgets", apart := false }
def HistForgetsSaid : Prop := histForgetsRow.holds Try.pinned (OpenSpec.ofChange histForgetsSpec)

/-- ITS FALSE NEIGHBOUR: 'it returns false'. Refute it at one input. -/
def histForgetsWrong : ChangeSpec := { name := "histForgets", fn := fun _ => fun
  | [d1, d2, d3] => { results := [.lit (.bool false)], args := [d1, d2, d3] }
  | _ => none }
def HistForgetsWrongFalsely : Prop := histForgetsRow.holds Try.pinned (OpenSpec.ofChange histForgetsWrong)

/-- 'cotterellaw17.HistFolds': WHATEVER THE INPUT: true; the input reads as it did. -/
def histFoldsSpec : ChangeSpec := { name := "histFolds", fn := fun _ => fun
  | [d1, d2, d3] => { results := [.lit (.bool true)], args := [d1, d2, d3] }
  | _ => none }
def histFoldsRow : OpenClaim := { program := "ytghmllhcegioiaa", sum := "a9d1809d4e99d5d24d0a91736b0e1cef0d6aa256b12d4fd42ddb0868f2f4341a", func := "cotterel/cotterellaw17.HistFolds", spec := "histFolds", apart := false }
def HistFoldsSaid : Prop := histFoldsRow.holds Try.pinned (OpenSpec.ofChange histFoldsSpec)

/-- ITS FALSE NEIGHBOUR: 'it returns false'. Refute it at one input. -/
def histFoldsWrong : ChangeSpec := { name := "histFolds", fn := fun _ => fun
  | [d1, d2, d3] => { results := [.lit (.bool false)], args := [d1, d2, d3] }
  | _ => none }
def HistFoldsWrongFalsely : Prop := histFoldsRow.holds Try.pinned (OpenSpec.ofChange histFoldsWrong)

/-- 'cotterellaw04.MulSteps': WHATEVER THE INPUT: true; the input reads as it did. -/
def mulStepsSpec : ChangeSpec := { name := "mulSteps", fn := fun _ => fun
  | [d] => { results := [.lit (.bool true)], args := [d] }
  | _ => none }
def mulStepsRow : OpenClaim := { program := "ytghmllhcegioiaa", sum := "a9d1809d4e99d5d24d0a91736b0e1cef0d6aa256b12d4fd42ddb0868f2f4341a", func := "cotterel/cotterellaw04.MulSteps", spec := "mulSteps", apart := false }
def MulStepsSaid : Prop := mulStepsRow.holds Try.pinned (OpenSpec.ofChange mulStepsSpec)

/-- ITS FALSE NEIGHBOUR: 'it returns false'. Refute it at one input. -/
def mulStepsWrong : ChangeSpec := { name := "mulSteps", fn := fun _ => fun
  | [d] => { results := [.lit (.bool false)], args := [d] }
  | _ => none }
def MulStepsWrongFalsely : Prop := mulStepsRow.holds Try.pinned (OpenSpec.ofChange mulStepsWrong)

/-- 'cotterellaw04.MulWhole': WHATEVER THE INPUT: true; the input reads as it did. -/
def mulWholeSpec : ChangeSpec := { name := "mulWhole", fn := fun _ => fun
  | [d1, d2] => { results := [.lit (.bool true)], args := [d1, d2] }
  | _ => none }
def mulWholeRow : OpenClaim := { program := "ytghmllhcegioiaa", sum := "a9d1809d4e99d5d24d0a91736b0e1cef0d6aa256b12d4fd42ddb0868f2f4341a", func := "cotterel/cotterellaw04.MulWhole", spec := "mulWhole", apart := false }
def MulWholeSaid : Prop := mulWholeRow.holds Try.pinned (OpenSpec.ofChange mulWholeSpec)

/-- ITS FALSE NEIGHBOUR: 'it returns false'. Refute it at one input. -/
def mulWholeWrong : ChangeSpec := { name := "mulWhole", fn := fun _ => fun
  | [d1, d2] => { results := [.lit (.bool false)], args := [d1, d2] }
  | _ => none }
def MulWholeWrongFalsely : Prop := mulWholeRow.holds Try.pinned (OpenSpec.ofChange mulWholeWrong)

/-- 'cotterellaw04.MulPart': WHATEVER THE INPUT: true; the input reads as it did. -/
def mulPartSpec : ChangeSpec := { name := "mulPart", fn := fun _ => fun
  | [d1, d2, d3] => { results := [.lit (.bool true)], args := [d1, d2, d3] }
  | _ => none }
def mulPartRow : OpenClaim := { program := "ytghmllhcegioiaa", sum := "a9d1809d4e99d5d24d0a91736b0e1cef0d6aa256b12d4fd42ddb0868f2f4341a", func := "cotterel/cotterellaw04.MulPart", spec := "mulPart", apart := false }
def MulPartSaid : Prop := mulPartRow.holds Try.pinned (OpenSpec.ofChange mulPartSpec)

/-- ITS FALSE NEIGHBOUR: 'it returns false'. Refute it at one input. -/
def mulPartWrong : ChangeSpec := { name := "mulPart", fn := fun _ => fun
  | [d1, d2, d3] => { results := [.lit (.bool false)], args := [d1, d2, d3] }
  | _ => none }
def MulPartWrongFalsely : Prop := mulPartRow.holds Try.pinned (OpenSpec.ofChange mulPartWrong)

/-- 'cotterellaw04.MulDoes': WHATEVER THE INPUT: true; the input reads as it did. -/
def mulDoesSpec : ChangeSpec := { name := "mulDoes", fn := fun _ => fun
  | [d1, d2, d3] => { results := [.lit (.bool true)], args := [d1, d2, d3] }
  | _ => none }
def mulDoesRow : OpenClaim := { program := "ytghmllhcegioiaa", sum := "a9d1809d4e99d5d24d0a91736b0e1cef0d6aa256b12d4fd42ddb0868f2f4341a", func := "cotterel/cotterellaw04.MulDoes", spec := "mulDoes", apart := false }
def MulDoesSaid : Prop := mulDoesRow.holds Try.pinned (OpenSpec.ofChange mulDoesSpec)

/-- ITS FALSE NEIGHBOUR: 'it returns false'. Refute it at one input. -/
def mulDoesWrong : ChangeSpec := { name := "mulDoes", fn := fun _ => fun
  | [d1, d2, d3] => { results := [.lit (.bool false)], args := [d1, d2, d3] }
  | _ => none }
def MulDoesWrongFalsely : Prop := mulDoesRow.holds Try.pinned (OpenSpec.ofChange mulDoesWrong)

/- THE SECOND FORM. 'bulk': how many values and letters a reading holds, each counted each time it is reached (what is shared counts as often as it is met; a slice's spare places count too). A statement '..UptoSaid' is the law's where the arguments, and the package variables that the reading takes, are together of bulk at most 1048576: NARROWER than '..Said'. Prove '..Said' where nothing that the law and all that it calls make is longer than what came in: it says more and counts as full. Else prove '..UptoSaid'. A law counts once. -/
mutual
def uptoBulk {H : Type} : DataW H → Nat
  | .lit (.string bytes) => bytes.length + 1
  | .lit _ => 1
  | .nil => 1
  | .ptr d => uptoBulk d + 1
  | .slice elems spare => uptoBulkAll elems + uptoBulkAll spare + 1
  | .agg parts => uptoBulkAll parts + 1
  | .iface _ d => uptoBulk d + 1
  | .map entries => uptoBulkEntries entries + 1
  | .held _ => 1
def uptoBulkAll {H : Type} : List (DataW H) → Nat
  | [] => 0
  | d :: r => uptoBulk d + uptoBulkAll r
def uptoBulkEntries {H : Type} : List (Lit × DataW H) → Nat
  | [] => 0
  | x :: r => uptoBulkEntry x + uptoBulkEntries r
def uptoBulkEntry {H : Type} : Lit × DataW H → Nat
  | (.string bytes, d) => bytes.length + uptoBulk d + 1
  | (_, d) => uptoBulk d + 1
 end
def uptoSmall : (H : Type) → List (DataW H) → Bool := fun _ ds => decide (uptoBulkAll ds ≤ 1048576)
def OpenSpec.upto (s : _root_.Go.ChangeSpec) : _root_.Go.OpenSpec := { _root_.Go.OpenSpec.ofChange s with cond := some uptoSmall }

/-- 'cotterellaw17.HistTells', WHERE WHAT IT READS IS OF BULK AT MOST 1048576: true; the input reads as it did. -/
def histTellsUptoRow : OpenClaim := { program := "ytghmllhcegioiaa", sum := "a9d1809d4e99d5d24d0a91736b0e1cef0d6aa256b12d4fd42ddb0868f2f4341a", func := "cotterel/cotterellaw17.HistTells", spec := "histTells", apart := false, narrowed := true }
def HistTellsUptoSaid : Prop := histTellsUptoRow.holds Try.pinned (OpenSpec.upto histTellsSpec)

/-- 'cotterellaw17.HistLast', WHERE WHAT IT READS IS OF BULK AT MOST 1048576: true; the input reads as it did. -/
def histLastUptoRow : OpenClaim := { program := "ytghmllhcegioiaa", sum := "a9d1809d4e99d5d24d0a91736b0e1cef0d6aa256b12d4fd42ddb0868f2f4341a", func := "cotterel/cotterellaw17.HistLast", spec := "histLast", apart := false, narrowed := true }
def HistLastUptoSaid : Prop := histLastUptoRow.holds Try.pinned (OpenSpec.upto histLastSpec)

/-- 'cotterellaw17.HistForgets', WHERE WHAT IT READS IS OF BULK AT MOST 1048576: true; the input reads as it did. -/
def histForgetsUptoRow : OpenClaim := { program := "ytghmllhcegioiaa", sum := "a9d1809d4e99d5d24d0a91736b0e1cef0d6aa256b12d4fd42ddb0868f2f4341a", func := "cotterel/cotterellaw17.HistForgets", spec := "histForgets", apart := false, narrowed := true }
def HistForgetsUptoSaid : Prop := histForgetsUptoRow.holds Try.pinned (OpenSpec.upto histForgetsSpec)

/-- 'cotterellaw17.HistFolds', WHERE WHAT IT READS IS OF BULK AT MOST 1048576: true; the input reads as it did. -/
def histFoldsUptoRow : OpenClaim := { program := "ytghmllhcegioiaa", sum := "a9d1809d4e99d5d24d0a91736b0e1cef0d6aa256b12d4fd42ddb0868f2f4341a", func := "cotterel/cotterellaw17.HistFolds", spec := "histFolds", apart := false, narrowed := true }
def HistFoldsUptoSaid : Prop := histFoldsUptoRow.holds Try.pinned (OpenSpec.upto histFoldsSpec)

/-- 'cotterellaw04.MulSteps', WHERE WHAT IT READS IS OF BULK AT MOST 1048576: true; the input reads as it did. -/
def mulStepsUptoRow : OpenClaim := { program := "ytghmllhcegioiaa", sum := "a9d1809d4e99d5d24d0a91736b0e1cef0d6aa256b12d4fd42ddb0868f2f4341a", func := "cotterel/cotterellaw04.MulSteps", spec := "mulSteps", apart := false, narrowed := true }
def MulStepsUptoSaid : Prop := mulStepsUptoRow.holds Try.pinned (OpenSpec.upto mulStepsSpec)

/-- 'cotterellaw04.MulWhole', WHERE WHAT IT READS IS OF BULK AT MOST 1048576: true; the input reads as it did. -/
def mulWholeUptoRow : OpenClaim := { program := "ytghmllhcegioiaa", sum := "a9d1809d4e99d5d24d0a91736b0e1cef0d6aa256b12d4fd42ddb0868f2f4341a", func := "cotterel/cotterellaw04.MulWhole", spec := "mulWhole", apart := false, narrowed := true }
def MulWholeUptoSaid : Prop := mulWholeUptoRow.holds Try.pinned (OpenSpec.upto mulWholeSpec)

/-- 'cotterellaw04.MulPart', WHERE WHAT IT READS IS OF BULK AT MOST 1048576: true; the input reads as it did. -/
def mulPartUptoRow : OpenClaim := { program := "ytghmllhcegioiaa", sum := "a9d1809d4e99d5d24d0a91736b0e1cef0d6aa256b12d4fd42ddb0868f2f4341a", func := "cotterel/cotterellaw04.MulPart", spec := "mulPart", apart := false, narrowed := true }
def MulPartUptoSaid : Prop := mulPartUptoRow.holds Try.pinned (OpenSpec.upto mulPartSpec)

/-- 'cotterellaw04.MulDoes', WHERE WHAT IT READS IS OF BULK AT MOST 1048576: true; the input reads as it did. -/
def mulDoesUptoRow : OpenClaim := { program := "ytghmllhcegioiaa", sum := "a9d1809d4e99d5d24d0a91736b0e1cef0d6aa256b12d4fd42ddb0868f2f4341a", func := "cotterel/cotterellaw04.MulDoes", spec := "mulDoes", apart := false, narrowed := true }
def MulDoesUptoSaid : Prop := mulDoesUptoRow.holds Try.pinned (OpenSpec.upto mulDoesSpec)

end Rows
end Go.Proofs.Ytghmllhcegioiaa
