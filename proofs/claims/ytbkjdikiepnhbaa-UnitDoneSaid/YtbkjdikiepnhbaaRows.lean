/-
  No cell of these rows narrows 'for every input' (looked for: loops, veiled, ifaces, maps, wideKeys, modest, calm, conditions, laid).
  DERIVED. THE GIVEN ROWS OF THIS SEAT. 4 by the template 'for every input the law returns true; each argument reads behind the call as it read before'; 0 by the template 'total and deterministic' (their statements: YtbkjdikiepnhbaaTotals.lean).
  GIVEN WITH THE SEED: the statements are not yours to turn. If you find one false, say at which input.
  Laid BY PROGRAM, IN A SANDBOX (cutbox-rows.mjs): the forced cells as the released guide's own fill.sh prints them over the translation 4ebf3002ab90ba2d… (all of the seat's roots in one cut). By AI agents, Wed Nov 11 2026. No macro, syntax, notation, axiom, sorry.
-/
import Derived.Test.YtbkjdikiepnhbaaChecked
import GoSem.Claim
import GoSem.ClaimJoined
import GoSem.ClaimMapViews
import Derived.JoinedTies
import Derived.KernelRfl
namespace Go.Proofs.Ytbkjdikiepnhbaa
/- THE CELL 'sum', in the pinned program and in every row, IS THE sha256 OF THE DUMP (.gsa) THAT YtbkjdikiepnhbaaProg.lean LOADS. Nothing in Lean hashes anything: it is a label: what it is worth is what the hold of that sum in a sandbox is worth. -/
noncomputable def Try.pinned : Pinned := { name := "ytbkjdikiepnhbaa", sum := "4ebf3002ab90ba2d23e67d4c492fc212a30c3afa18de7c1979e1e81c153fb620", checked := Try.checked }
namespace Rows
def none {H : Type} : Left H := { results := [], args := [] }

/-- 'cotterellaw31.UnitRoom': WHATEVER THE INPUT: true; the input reads as it did. -/
def unitRoomSpec : ChangeSpec := { name := "unitRoom", fn := fun _ => fun
  | [d1, d2, d3] => { results := [.lit (.bool true)], args := [d1, d2, d3] }
  | _ => none }
def unitRoomRow : OpenClaim := { program := "ytbkjdikiepnhbaa", sum := "4ebf3002ab90ba2d23e67d4c492fc212a30c3afa18de7c1979e1e81c153fb620", func := "cotterel/cotterellaw31.UnitRoom", spec := "unitRoom", unfollowed := true, recurses := true, apart := false }
def UnitRoomSaid : Prop := unitRoomRow.holds Try.pinned (OpenSpec.ofChange unitRoomSpec)

/-- ITS FALSE NEIGHBOUR: 'it returns false'. Refute it at one input. -/
def unitRoomWrong : ChangeSpec := { name := "unitRoom", fn := fun _ => fun
  | [d1, d2, d3] => { results := [.lit (.bool false)], args := [d1, d2, d3] }
  | _ => none }
def UnitRoomWrongFalsely : Prop := unitRoomRow.holds Try.pinned (OpenSpec.ofChange unitRoomWrong)

/-- 'cotterellaw31.UnitStarts': WHATEVER THE INPUT: true; the input reads as it did. -/
def unitStartsSpec : ChangeSpec := { name := "unitStarts", fn := fun _ => fun
  | [d1, d2, d3] => { results := [.lit (.bool true)], args := [d1, d2, d3] }
  | _ => none }
def unitStartsRow : OpenClaim := { program := "ytbkjdikiepnhbaa", sum := "4ebf3002ab90ba2d23e67d4c492fc212a30c3afa18de7c1979e1e81c153fb620", func := "cotterel/cotterellaw31.UnitStarts", spec := "unitStarts", unfollowed := true, recurses := true, apart := false }
def UnitStartsSaid : Prop := unitStartsRow.holds Try.pinned (OpenSpec.ofChange unitStartsSpec)

/-- ITS FALSE NEIGHBOUR: 'it returns false'. Refute it at one input. -/
def unitStartsWrong : ChangeSpec := { name := "unitStarts", fn := fun _ => fun
  | [d1, d2, d3] => { results := [.lit (.bool false)], args := [d1, d2, d3] }
  | _ => none }
def UnitStartsWrongFalsely : Prop := unitStartsRow.holds Try.pinned (OpenSpec.ofChange unitStartsWrong)

/-- 'cotterellaw31.UnitTime': WHATEVER THE INPUT: true; the input reads as it did. -/
def unitTimeSpec : ChangeSpec := { name := "unitTime", fn := fun _ => fun
  | [d1, d2, d3] => { results := [.lit (.bool true)], args := [d1, d2, d3] }
  | _ => none }
def unitTimeRow : OpenClaim := { program := "ytbkjdikiepnhbaa", sum := "4ebf3002ab90ba2d23e67d4c492fc212a30c3afa18de7c1979e1e81c153fb620", func := "cotterel/cotterellaw31.UnitTime", spec := "unitTime", unfollowed := true, recurses := true, apart := false }
def UnitTimeSaid : Prop := unitTimeRow.holds Try.pinned (OpenSpec.ofChange unitTimeSpec)

/-- ITS FALSE NEIGHBOUR: 'it returns false'. Refute it at one input. -/
def unitTimeWrong : ChangeSpec := { name := "unitTime", fn := fun _ => fun
  | [d1, d2, d3] => { results := [.lit (.bool false)], args := [d1, d2, d3] }
  | _ => none }
def UnitTimeWrongFalsely : Prop := unitTimeRow.holds Try.pinned (OpenSpec.ofChange unitTimeWrong)

/-- 'cotterellaw31.UnitDone': WHATEVER THE INPUT: true; the input reads as it did. -/
def unitDoneSpec : ChangeSpec := { name := "unitDone", fn := fun _ => fun
  | [d1, d2] => { results := [.lit (.bool true)], args := [d1, d2] }
  | _ => none }
def unitDoneRow : OpenClaim := { program := "ytbkjdikiepnhbaa", sum := "4ebf3002ab90ba2d23e67d4c492fc212a30c3afa18de7c1979e1e81c153fb620", func := "cotterel/cotterellaw31.UnitDone", spec := "unitDone", unfollowed := true, recurses := true, apart := false }
def UnitDoneSaid : Prop := unitDoneRow.holds Try.pinned (OpenSpec.ofChange unitDoneSpec)

/-- ITS FALSE NEIGHBOUR: 'it returns false'. Refute it at one input. -/
def unitDoneWrong : ChangeSpec := { name := "unitDone", fn := fun _ => fun
  | [d1, d2] => { results := [.lit (.bool false)], args := [d1, d2] }
  | _ => none }
def UnitDoneWrongFalsely : Prop := unitDoneRow.holds Try.pinned (OpenSpec.ofChange unitDoneWrong)

/- THE SECOND FORM. 'bulk': how many values and letters a reading holds, each counted each time it is reached (what is shared counts as often as it is met; a slice's spare places count too). A statement '..UptoSaid' is the law's where the arguments, and the package variables that the reading takes, are together of bulk at most 1048576: NARROWER than '..Said'. Prove '..Said' where nothing that the law and all that it calls make is longer than what came in: it says more and counts as full. Else prove '..UptoSaid'. A law counts once. -/
mutual
def uptoBulk {H : Type} : DataW H → Nat
  | .lit (.string bytes) => bytes.length + 1
  | .lit _ => 1
  | .nil => 1
  | .ptr d => uptoBulk d + 1
  | .slice elems spare => uptoBulkAll elems + uptoBulkAll spare + 1
  | .agg parts => uptoBulkAll parts + 1
  | .iface _ d => uptoBulk d + 1
  | .map entries => uptoBulkEntries entries + 1
  | .held _ => 1
def uptoBulkAll {H : Type} : List (DataW H) → Nat
  | [] => 0
  | d :: r => uptoBulk d + uptoBulkAll r
def uptoBulkEntries {H : Type} : List (Lit × DataW H) → Nat
  | [] => 0
  | x :: r => uptoBulkEntry x + uptoBulkEntries r
def uptoBulkEntry {H : Type} : Lit × DataW H → Nat
  | (.string bytes, d) => bytes.length + uptoBulk d + 1
  | (_, d) => uptoBulk d + 1
 end
def uptoSmall : (H : Type) → List (DataW H) → Bool := fun _ ds => decide (uptoBulkAll ds ≤ 1048576)
def OpenSpec.upto (s : _root_.Go.ChangeSpec) : _root_.Go.OpenSpec := { _root_.Go.OpenSpec.ofChange s with cond := some uptoSmall }

/-- 'cotterellaw31.UnitRoom', WHERE WHAT IT READS IS OF BULK AT MOST 1048576: true; the input reads as it did. -/
def unitRoomUptoRow : OpenClaim := { program := "ytbkjdikiepnhbaa", sum := "4ebf3002ab90ba2d23e67d4c492fc212a30c3afa18de7c1979e1e81c153fb620", func := "cotterel/cotterellaw31.UnitRoom", spec := "unitRoom", unfollowed := true, recurses := true, apart := false, narrowed := true }
def UnitRoomUptoSaid : Prop := unitRoomUptoRow.holds Try.pinned (OpenSpec.upto unitRoomSpec)

/-- 'cotterellaw31.UnitStarts', WHERE WHAT IT READS IS OF BULK AT MOST 1048576: true; the input reads as it did. -/
def unitStartsUptoRow : OpenClaim := { program := "ytbkjdikiepnhbaa", sum := "4ebf3002ab90ba2d23e67d4c492fc212a30c3afa18de7c1979e1e81c153fb620", func := "cotterel/cotterellaw31.UnitStarts", spec := "unitStarts", unfollowed := true, recurses := true, apart := false, narrowed := true }
def UnitStartsUptoSaid : Prop := unitStartsUptoRow.holds Try.pinned (OpenSpec.upto unitStartsSpec)

/-- 'cotterellaw31.UnitTime', WHERE WHAT IT READS IS OF BULK AT MOST 1048576: true; the input reads as it did. -/
def unitTimeUptoRow : OpenClaim := { program := "ytbkjdikiepnhbaa", sum := "4ebf3002ab90ba2d23e67d4c492fc212a30c3afa18de7c1979e1e81c153fb620", func := "cotterel/cotterellaw31.UnitTime", spec := "unitTime", unfollowed := true, recurses := true, apart := false, narrowed := true }
def UnitTimeUptoSaid : Prop := unitTimeUptoRow.holds Try.pinned (OpenSpec.upto unitTimeSpec)

/-- 'cotterellaw31.UnitDone', WHERE WHAT IT READS IS OF BULK AT MOST 1048576: true; the input reads as it did. -/
def unitDoneUptoRow : OpenClaim := { program := "ytbkjdikiepnhbaa", sum := "4ebf3002ab90ba2d23e67d4c492fc212a30c3afa18de7c1979e1e81c153fb620", func := "cotterel/cotterellaw31.UnitDone", spec := "unitDone", unfollowed := true, recurses := true, apart := false, narrowed := true }
def UnitDoneUptoSaid : Prop := unitDoneUptoRow.holds Try.pinned (OpenSpec.upto unitDoneSpec)

end Rows
end Go.Proofs.Ytbkjdikiepnhbaa
