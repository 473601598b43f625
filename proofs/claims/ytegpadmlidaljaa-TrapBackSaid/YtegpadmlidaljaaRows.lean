/-
  No cell of these rows narrows 'for every input' (looked for: loops, veiled, ifaces, maps, wideKeys, modest, calm, conditions, laid).
  DERIVED. THE GIVEN ROWS OF THIS SEAT. 4 by the template 'for every input the law returns true; each argument reads behind the call as it read before'; 0 by the template 'total and deterministic' (their statements: YtegpadmlidaljaaTotals.lean).
  GIVEN WITH THE SEED: the statements are not yours to turn. If you find one false, say at which input.
  Laid BY PROGRAM, IN A SANDBOX (cutbox-rows.mjs): the forced cells as the released guide's own fill.sh prints them over the translation 7c6ab737ed6133ce… (all of the seat's roots in one cut). By AI agents, Wed Nov 11 2026. No macro, syntax, notation, axiom, sorry.
-/
import Derived.Test.YtegpadmlidaljaaChecked
import GoSem.Claim
import GoSem.ClaimJoined
import GoSem.ClaimMapViews
import Derived.JoinedTies
import Derived.KernelRfl
namespace Go.Proofs.Ytegpadmlidaljaa
/- THE CELL 'sum', in the pinned program and in every row, IS THE sha256 OF THE DUMP (.gsa) THAT YtegpadmlidaljaaProg.lean LOADS. Nothing in Lean hashes anything: it is a label: what it is worth is what the hold of that sum in a sandbox is worth. -/
noncomputable def Try.pinned : Pinned := { name := "ytegpadmlidaljaa", sum := "7c6ab737ed6133ce250ff7b97632d3df598b3d0e5e44b3882bc896ec039dc4fa", checked := Try.checked }
namespace Rows
def none {H : Type} : Left H := { results := [], args := [] }

/-- 'cotterellaw14.TrapTakes': WHATEVER THE INPUT: true; the input reads as it did. -/
def trapTakesSpec : ChangeSpec := { name := "trapTakes", fn := fun _ => fun
  | [d1, d2, d3] => { results := [.lit (.bool true)], args := [d1, d2, d3] }
  | _ => none }
def trapTakesRow : OpenClaim := { program := "ytegpadmlidaljaa", sum := "7c6ab737ed6133ce250ff7b97632d3df598b3d0e5e44b3882bc896ec039dc4fa", func := "cotterel/cotterellaw14.TrapTakes", spec := "trapTakes", apart := false }
def TrapTakesSaid : Prop := trapTakesRow.holds Try.pinned (OpenSpec.ofChange trapTakesSpec)

/-- ITS FALSE NEIGHBOUR: 'it returns false'. Refute it at one input. -/
def trapTakesWrong : ChangeSpec := { name := "trapTakes", fn := fun _ => fun
  | [d1, d2, d3] => { results := [.lit (.bool false)], args := [d1, d2, d3] }
  | _ => none }
def TrapTakesWrongFalsely : Prop := trapTakesRow.holds Try.pinned (OpenSpec.ofChange trapTakesWrong)

/-- 'cotterellaw14.TrapAsks': WHATEVER THE INPUT: true; the input reads as it did. -/
def trapAsksSpec : ChangeSpec := { name := "trapAsks", fn := fun _ => fun
  | [d1, d2] => { results := [.lit (.bool true)], args := [d1, d2] }
  | _ => none }
def trapAsksRow : OpenClaim := { program := "ytegpadmlidaljaa", sum := "7c6ab737ed6133ce250ff7b97632d3df598b3d0e5e44b3882bc896ec039dc4fa", func := "cotterel/cotterellaw14.TrapAsks", spec := "trapAsks", apart := false }
def TrapAsksSaid : Prop := trapAsksRow.holds Try.pinned (OpenSpec.ofChange trapAsksSpec)

/-- ITS FALSE NEIGHBOUR: 'it returns false'. Refute it at one input. -/
def trapAsksWrong : ChangeSpec := { name := "trapAsks", fn := fun _ => fun
  | [d1, d2] => { results := [.lit (.bool false)], args := [d1, d2] }
  | _ => none }
def TrapAsksWrongFalsely : Prop := trapAsksRow.holds Try.pinned (OpenSpec.ofChange trapAsksWrong)

/-- 'cotterellaw14.TrapReturns': WHATEVER THE INPUT: true; the input reads as it did. -/
def trapReturnsSpec : ChangeSpec := { name := "trapReturns", fn := fun _ => fun
  | [d] => { results := [.lit (.bool true)], args := [d] }
  | _ => none }
def trapReturnsRow : OpenClaim := { program := "ytegpadmlidaljaa", sum := "7c6ab737ed6133ce250ff7b97632d3df598b3d0e5e44b3882bc896ec039dc4fa", func := "cotterel/cotterellaw14.TrapReturns", spec := "trapReturns", apart := false }
def TrapReturnsSaid : Prop := trapReturnsRow.holds Try.pinned (OpenSpec.ofChange trapReturnsSpec)

/-- ITS FALSE NEIGHBOUR: 'it returns false'. Refute it at one input. -/
def trapReturnsWrong : ChangeSpec := { name := "trapReturns", fn := fun _ => fun
  | [d] => { results := [.lit (.bool false)], args := [d] }
  | _ => none }
def TrapReturnsWrongFalsely : Prop := trapReturnsRow.holds Try.pinned (OpenSpec.ofChange trapReturnsWrong)

/-- 'cotterellaw14.TrapBack': WHATEVER THE INPUT: true; the input reads as it did. -/
def trapBackSpec : ChangeSpec := { name := "trapBack", fn := fun _ => fun
  | [d1, d2, d3] => { results := [.lit (.bool true)], args := [d1, d2, d3] }
  | _ => none }
def trapBackRow : OpenClaim := { program := "ytegpadmlidaljaa", sum := "7c6ab737ed6133ce250ff7b97632d3df598b3d0e5e44b3882bc896ec039dc4fa", func := "cotterel/cotterellaw14.TrapBack", spec := "trapBack", apart := false }
def TrapBackSaid : Prop := trapBackRow.holds Try.pinned (OpenSpec.ofChange trapBackSpec)

/-- ITS FALSE NEIGHBOUR: 'it returns false'. Refute it at one input. -/
def trapBackWrong : ChangeSpec := { name := "trapBack", fn := fun _ => fun
  | [d1, d2, d3] => { results := [.lit (.bool false)], args := [d1, d2, d3] }
  | _ => none }
def TrapBackWrongFalsely : Prop := trapBackRow.holds Try.pinned (OpenSpec.ofChange trapBackWrong)

/- THE SECOND FORM. 'bulk': how many values and letters a reading holds, each counted each time it is reached (what is shared counts as often as it is met; a slice's spare places count too). A statement '..UptoSaid' is the law's where the arguments, and the package variables that the reading takes, are together of bulk at most 1048576: NARROWER than '..Said'. Prove '..Said' where nothing that the law and all that it calls make is longer than what came in: it says more and counts as full. Else prove '..UptoSaid'. A law counts once. -/
mutual
def uptoBulk {H : Type} : DataW H → Nat
  | .lit (.string bytes) => bytes.length + 1
  | .lit _ => 1
  | .nil => 1
  | .ptr d => uptoBulk d + 1
  | .slice elems spare => uptoBulkAll elems + uptoBulkAll spare + 1
  | .agg parts => uptoBulkAll parts + 1
  | .iface _ d => uptoBulk d + 1
  | .map entries => uptoBulkEntries entries + 1
  | .held _ => 1
def uptoBulkAll {H : Type} : List (DataW H) → Nat
  | [] => 0
  | d :: r => uptoBulk d + uptoBulkAll r
def uptoBulkEntries {H : Type} : List (Lit × DataW H) → Nat
  | [] => 0
  | x :: r => uptoBulkEntry x + uptoBulkEntries r
def uptoBulkEntry {H : Type} : Lit × DataW H → Nat
  | (.string bytes, d) => bytes.length + uptoBulk d + 1
  | (_, d) => uptoBulk d + 1
 end
def uptoSmall : (H : Type) → List (DataW H) → Bool := fun _ ds => decide (uptoBulkAll ds ≤ 1048576)
def OpenSpec.upto (s : _root_.Go.ChangeSpec) : _root_.Go.OpenSpec := { _root_.Go.OpenSpec.ofChange s with cond := some uptoSmall }

/-- 'cotterellaw14.TrapTakes', WHERE WHAT IT READS IS OF BULK AT MOST 1048576: true; the input reads as it did. -/
def trapTakesUptoRow : OpenClaim := { program := "ytegpadmlidaljaa", sum := "7c6ab737ed6133ce250ff7b97632d3df598b3d0e5e44b3882bc896ec039dc4fa", func := "cotterel/cotterellaw14.TrapTakes", spec := "trapTakes", apart := false, narrowed := true }
def TrapTakesUptoSaid : Prop := trapTakesUptoRow.holds Try.pinned (OpenSpec.upto trapTakesSpec)

/-- 'cotterellaw14.TrapAsks', WHERE WHAT IT READS IS OF BULK AT MOST 1048576: true; the input reads as it did. -/
def trapAsksUptoRow : OpenClaim := { program := "ytegpadmlidaljaa", sum := "7c6ab737ed6133ce250ff7b97632d3df598b3d0e5e44b3882bc896ec039dc4fa", func := "cotterel/cotterellaw14.TrapAsks", spec := "trapAsks", apart := false, narrowed := true }
def TrapAsksUptoSaid : Prop := trapAsksUptoRow.holds Try.pinned (OpenSpec.upto trapAsksSpec)

/-- 'cotterellaw14.TrapReturns', WHERE WHAT IT READS IS OF BULK AT MOST 1048576: true; the input reads as it did. -/
def trapReturnsUptoRow : OpenClaim := { program := "ytegpadmlidaljaa", sum := "7c6ab737ed6133ce250ff7b97632d3df598b3d0e5e44b3882bc896ec039dc4fa", func := "cotterel/cotterellaw14.TrapReturns", spec := "trapReturns", apart := false, narrowed := true }
def TrapReturnsUptoSaid : Prop := trapReturnsUptoRow.holds Try.pinned (OpenSpec.upto trapReturnsSpec)

/-- 'cotterellaw14.TrapBack', WHERE WHAT IT READS IS OF BULK AT MOST 1048576: true; the input reads as it did. -/
def trapBackUptoRow : OpenClaim := { program := "ytegpadmlidaljaa", sum := "7c6ab737ed6133ce250ff7b97632d3df598b3d0e5e44b3882bc896ec039dc4fa", func := "cotterel/cotterellaw14.TrapBack", spec := "trapBack", apart := false, narrowed := true }
def TrapBackUptoSaid : Prop := trapBackUptoRow.holds Try.pinned (OpenSpec.upto trapBackSpec)

end Rows
end Go.Proofs.Ytegpadmlidaljaa
