-- PRINTED BY print.sh 35421559b90ae4d0a3588c463048766b98c2df88dd9212a6774a882060cdf62d: not written by this session
import Derived.Test.YtbkjdikiepnhbaaProg
import Derived.Below
import Derived.Deep.Draws
import Derived.Deep.AppendLies
import Derived.Maps.AppendAt
import Derived.OwnWalk
import Derived.Laws.BytesArg
import Derived.Laws.MakeOwn
import Derived.Laws.OwnMore
import Derived.Deep.OwnRows
import Derived.Tactics
import Derived.Lib.ConvBytes
import Derived.Laws.Slices
import Derived.WalkKit
import Derived.KernelRfl
import Derived.RowKit3
import Derived.Deep.LoopGhost
import Derived.Deep.QuietTactic
import Derived.BigQuiet
import Derived.WideLaws
import Derived.Deep.DeepCutAuto
import Derived.Deep.CutBlock
import Derived.Deep.RegionHeld3
import Derived.Laws.Rows
import Derived.Lib.AppendStr
import Derived.ArgAppend
import Derived.Laws.IdiomCopy
import Derived.OrdersHeld
import Derived.Laws.BitsLemmas
import Derived.RowKit
import Derived.Test.YtbkjdikiepnhbaaWWords
import Derived.Test.YtbkjdikiepnhbaaWLast
import Derived.Test.YtbkjdikiepnhbaaWTab
import Derived.Test.YtbkjdikiepnhbaaWFour
import Derived.Test.YtbkjdikiepnhbaaWQPut
import Derived.Test.YtbkjdikiepnhbaaWApart
import Derived.Test.YtbkjdikiepnhbaaWArr
import Derived.Test.YtbkjdikiepnhbaaWZeros
import Derived.Test.YtbkjdikiepnhbaaWFoot
import Derived.Test.YtbkjdikiepnhbaaWKept
import Derived.Test.YtbkjdikiepnhbaaWShare
import Derived.Test.YtbkjdikiepnhbaaWN
import Derived.Test.YtbkjdikiepnhbaaWFootNe
import Derived.Test.YtbkjdikiepnhbaaWAt
import Derived.Test.YtbkjdikiepnhbaaWEqStruct
import Derived.Test.YtbkjdikiepnhbaaWRepsOne
import Derived.Test.YtbkjdikiepnhbaaWInv
import Derived.Test.YtbkjdikiepnhbaaWInvWords
import Derived.Test.YtbkjdikiepnhbaaWGuard
import Derived.Test.YtbkjdikiepnhbaaWNEv
import Derived.Test.YtbkjdikiepnhbaaWMore
namespace Go.Proofs.Ytbkjdikiepnhbaa.Fl
open Go.RowKit Go.Proofs.YtbkjdikiepnhbaaW.PrintWords Go.Proofs.YtbkjdikiepnhbaaW.PrintLast Go.Proofs.YtbkjdikiepnhbaaW.PrintMore
attribute [local go_sem] max2_int min2_int max_two min_two max_three min_three max_four min_four   -- for this text's walks alone
set_option linter.unusedVariables false
set_option linter.unusedSimpArgs false



def errW : Option Int → Value
  | none => .nilIface
  | some c => .iface 0 (.int .i64 c)
theorem errW_none : errW none = .nilIface := rfl
theorem errW_some (c : Int) : errW (some c) = .iface 0 (.int .i64 c) := rfl

theorem info44 : (Try.prog.info? 44).map (fun i => (i.zero, i.size, i.bytes)) = some (some (.agg #[(.int .i64 0), (.int .i64 0), (.int .i64 0), (.int .i64 0), (.int .i64 0), (.int .u32 0), (.int .u32 0), (.int .i64 0), (.int .u32 0), (.bool false), (.int .u32 0), (.int .u32 0), (.int .i64 0), (.int .u32 0), (.int .i64 0), (.int .i64 0), (.bool false), (.int .i64 0), (.int .i64 0), (.int .i64 0), (.int .i64 0), (.int .i64 0), (.int .u32 0), (.int .u64 0), (.int .i64 0), (.int .i64 0), (.int .i64 0), (.int .i64 0), (.int .i64 0), (.int .i64 0), (.int .i64 0), (.int .u32 0), (.int .u32 0), (.int .i64 0), (.int .u32 0)]), 35, 256) := by kernel_rfl
-- the values' own types
/-! #### struct type 29 -/
structure S29 where
  f0 : Int
  f1 : Int
  f2 : Int
  f3 : Int
  f4 : Int
def z29 : S29 := ⟨(0 : Int), (0 : Int), (0 : Int), (0 : Int), (0 : Int)⟩
def k29 : Kd S29 := Kd.iso (Kd.pair (Kd.int .i64) (Kd.pair (Kd.int .i64) (Kd.pair (Kd.int .i64) (Kd.pair (Kd.int .i64) (Kd.int .i64))))) (fun x : S29 => (x.f0, x.f1, x.f2, x.f3, x.f4))
theorem k29_open {w : World} {x : S29} {cs : List Value} (h : k29.K w x cs) : cs = [.int .i64 x.f0, .int .i64 x.f1, .int .i64 x.f2, .int .i64 x.f3, .int .i64 x.f4] := by
  obtain ⟨_, _, rfl, rfl, ⟨_, _, rfl, rfl, ⟨_, _, rfl, rfl, ⟨_, _, rfl, rfl, rfl⟩⟩⟩⟩ := h
  exact rfl
theorem k29_openM {w : World} {base : Nat} {ok : Nat → Prop} {x : S29} {cs : List Value} (h : k29.M w base ok x cs) : cs = [.int .i64 x.f0, .int .i64 x.f1, .int .i64 x.f2, .int .i64 x.f3, .int .i64 x.f4] := by
  obtain ⟨_, _, rfl, rfl, ⟨_, _, rfl, rfl, ⟨_, _, rfl, rfl, ⟨_, _, rfl, rfl, rfl⟩⟩⟩⟩ := h
  exact rfl
theorem k29_mk (w : World) (x : S29)  : k29.K w x [.int .i64 x.f0, .int .i64 x.f1, .int .i64 x.f2, .int .i64 x.f3, .int .i64 x.f4] := ⟨[.int .i64 x.f0], [.int .i64 x.f1, .int .i64 x.f2, .int .i64 x.f3, .int .i64 x.f4], rfl, rfl, ⟨[.int .i64 x.f1], [.int .i64 x.f2, .int .i64 x.f3, .int .i64 x.f4], rfl, rfl, ⟨[.int .i64 x.f2], [.int .i64 x.f3, .int .i64 x.f4], rfl, rfl, ⟨[.int .i64 x.f3], [.int .i64 x.f4], rfl, rfl, rfl⟩⟩⟩⟩
theorem k29_mkM (w : World) (base : Nat) (ok : Nat → Prop) (x : S29)  : k29.M w base ok x [.int .i64 x.f0, .int .i64 x.f1, .int .i64 x.f2, .int .i64 x.f3, .int .i64 x.f4] := ⟨[.int .i64 x.f0], [.int .i64 x.f1, .int .i64 x.f2, .int .i64 x.f3, .int .i64 x.f4], rfl, rfl, ⟨[.int .i64 x.f1], [.int .i64 x.f2, .int .i64 x.f3, .int .i64 x.f4], rfl, rfl, ⟨[.int .i64 x.f2], [.int .i64 x.f3, .int .i64 x.f4], rfl, rfl, ⟨[.int .i64 x.f3], [.int .i64 x.f4], rfl, rfl, rfl⟩⟩⟩⟩

/-! #### struct type 32 -/
structure S32 where
  f0 : Int
  f1 : Int
  f2 : Int
def z32 : S32 := ⟨(0 : Int), (0 : Int), (0 : Int)⟩
def k32 : Kd S32 := Kd.iso (Kd.pair (Kd.int .u32) (Kd.pair (Kd.int .i64) (Kd.int .u32))) (fun x : S32 => (x.f0, x.f1, x.f2))
theorem k32_open {w : World} {x : S32} {cs : List Value} (h : k32.K w x cs) : cs = [.int .u32 x.f0, .int .i64 x.f1, .int .u32 x.f2] := by
  obtain ⟨_, _, rfl, rfl, ⟨_, _, rfl, rfl, rfl⟩⟩ := h
  exact rfl
theorem k32_openM {w : World} {base : Nat} {ok : Nat → Prop} {x : S32} {cs : List Value} (h : k32.M w base ok x cs) : cs = [.int .u32 x.f0, .int .i64 x.f1, .int .u32 x.f2] := by
  obtain ⟨_, _, rfl, rfl, ⟨_, _, rfl, rfl, rfl⟩⟩ := h
  exact rfl
theorem k32_mk (w : World) (x : S32)  : k32.K w x [.int .u32 x.f0, .int .i64 x.f1, .int .u32 x.f2] := ⟨[.int .u32 x.f0], [.int .i64 x.f1, .int .u32 x.f2], rfl, rfl, ⟨[.int .i64 x.f1], [.int .u32 x.f2], rfl, rfl, rfl⟩⟩
theorem k32_mkM (w : World) (base : Nat) (ok : Nat → Prop) (x : S32)  : k32.M w base ok x [.int .u32 x.f0, .int .i64 x.f1, .int .u32 x.f2] := ⟨[.int .u32 x.f0], [.int .i64 x.f1, .int .u32 x.f2], rfl, rfl, ⟨[.int .i64 x.f1], [.int .u32 x.f2], rfl, rfl, rfl⟩⟩

/-! #### struct type 34 -/
structure S34 where
  f0 : Bool
  f1 : Int
  f2 : S32
def z34 : S34 := ⟨false, (0 : Int), z32⟩
def k34 : Kd S34 := Kd.iso (Kd.pair Kd.bool (Kd.pair (Kd.int .u32) k32)) (fun x : S34 => (x.f0, x.f1, x.f2))
theorem k34_open {w : World} {x : S34} {cs : List Value} (h : k34.K w x cs) : cs = [.bool x.f0, .int .u32 x.f1, .int .u32 x.f2.f0, .int .i64 x.f2.f1, .int .u32 x.f2.f2] := by
  obtain ⟨_, _, rfl, rfl, ⟨_, _, rfl, rfl, s2⟩⟩ := h
  obtain rfl := k32_open s2
  exact rfl
theorem k34_openM {w : World} {base : Nat} {ok : Nat → Prop} {x : S34} {cs : List Value} (h : k34.M w base ok x cs) : cs = [.bool x.f0, .int .u32 x.f1, .int .u32 x.f2.f0, .int .i64 x.f2.f1, .int .u32 x.f2.f2] := by
  obtain ⟨_, _, rfl, rfl, ⟨_, _, rfl, rfl, s2⟩⟩ := h
  obtain rfl := k32_openM s2
  exact rfl
theorem k34_mk (w : World) (x : S34)  : k34.K w x [.bool x.f0, .int .u32 x.f1, .int .u32 x.f2.f0, .int .i64 x.f2.f1, .int .u32 x.f2.f2] := ⟨[.bool x.f0], [.int .u32 x.f1, .int .u32 x.f2.f0, .int .i64 x.f2.f1, .int .u32 x.f2.f2], rfl, rfl, ⟨[.int .u32 x.f1], [.int .u32 x.f2.f0, .int .i64 x.f2.f1, .int .u32 x.f2.f2], rfl, rfl, (k32_mk w x.f2 )⟩⟩
theorem k34_mkM (w : World) (base : Nat) (ok : Nat → Prop) (x : S34)  : k34.M w base ok x [.bool x.f0, .int .u32 x.f1, .int .u32 x.f2.f0, .int .i64 x.f2.f1, .int .u32 x.f2.f2] := ⟨[.bool x.f0], [.int .u32 x.f1, .int .u32 x.f2.f0, .int .i64 x.f2.f1, .int .u32 x.f2.f2], rfl, rfl, ⟨[.int .u32 x.f1], [.int .u32 x.f2.f0, .int .i64 x.f2.f1, .int .u32 x.f2.f2], rfl, rfl, (k32_mkM w base ok x.f2 )⟩⟩

/-! #### struct type 36 -/
structure S36 where
  f0 : Int
  f1 : Int
  f2 : Int
  f3 : Int
  f4 : S34
def z36 : S36 := ⟨(0 : Int), (0 : Int), (0 : Int), (0 : Int), z34⟩
def k36 : Kd S36 := Kd.iso (Kd.pair (Kd.int .u32) (Kd.pair (Kd.int .u32) (Kd.pair (Kd.int .i64) (Kd.pair (Kd.int .u32) k34)))) (fun x : S36 => (x.f0, x.f1, x.f2, x.f3, x.f4))
theorem k36_open {w : World} {x : S36} {cs : List Value} (h : k36.K w x cs) : cs = [.int .u32 x.f0, .int .u32 x.f1, .int .i64 x.f2, .int .u32 x.f3, .bool x.f4.f0, .int .u32 x.f4.f1, .int .u32 x.f4.f2.f0, .int .i64 x.f4.f2.f1, .int .u32 x.f4.f2.f2] := by
  obtain ⟨_, _, rfl, rfl, ⟨_, _, rfl, rfl, ⟨_, _, rfl, rfl, ⟨_, _, rfl, rfl, s4⟩⟩⟩⟩ := h
  obtain rfl := k34_open s4
  exact rfl
theorem k36_openM {w : World} {base : Nat} {ok : Nat → Prop} {x : S36} {cs : List Value} (h : k36.M w base ok x cs) : cs = [.int .u32 x.f0, .int .u32 x.f1, .int .i64 x.f2, .int .u32 x.f3, .bool x.f4.f0, .int .u32 x.f4.f1, .int .u32 x.f4.f2.f0, .int .i64 x.f4.f2.f1, .int .u32 x.f4.f2.f2] := by
  obtain ⟨_, _, rfl, rfl, ⟨_, _, rfl, rfl, ⟨_, _, rfl, rfl, ⟨_, _, rfl, rfl, s4⟩⟩⟩⟩ := h
  obtain rfl := k34_openM s4
  exact rfl
theorem k36_mk (w : World) (x : S36)  : k36.K w x [.int .u32 x.f0, .int .u32 x.f1, .int .i64 x.f2, .int .u32 x.f3, .bool x.f4.f0, .int .u32 x.f4.f1, .int .u32 x.f4.f2.f0, .int .i64 x.f4.f2.f1, .int .u32 x.f4.f2.f2] := ⟨[.int .u32 x.f0], [.int .u32 x.f1, .int .i64 x.f2, .int .u32 x.f3, .bool x.f4.f0, .int .u32 x.f4.f1, .int .u32 x.f4.f2.f0, .int .i64 x.f4.f2.f1, .int .u32 x.f4.f2.f2], rfl, rfl, ⟨[.int .u32 x.f1], [.int .i64 x.f2, .int .u32 x.f3, .bool x.f4.f0, .int .u32 x.f4.f1, .int .u32 x.f4.f2.f0, .int .i64 x.f4.f2.f1, .int .u32 x.f4.f2.f2], rfl, rfl, ⟨[.int .i64 x.f2], [.int .u32 x.f3, .bool x.f4.f0, .int .u32 x.f4.f1, .int .u32 x.f4.f2.f0, .int .i64 x.f4.f2.f1, .int .u32 x.f4.f2.f2], rfl, rfl, ⟨[.int .u32 x.f3], [.bool x.f4.f0, .int .u32 x.f4.f1, .int .u32 x.f4.f2.f0, .int .i64 x.f4.f2.f1, .int .u32 x.f4.f2.f2], rfl, rfl, (k34_mk w x.f4 )⟩⟩⟩⟩
theorem k36_mkM (w : World) (base : Nat) (ok : Nat → Prop) (x : S36)  : k36.M w base ok x [.int .u32 x.f0, .int .u32 x.f1, .int .i64 x.f2, .int .u32 x.f3, .bool x.f4.f0, .int .u32 x.f4.f1, .int .u32 x.f4.f2.f0, .int .i64 x.f4.f2.f1, .int .u32 x.f4.f2.f2] := ⟨[.int .u32 x.f0], [.int .u32 x.f1, .int .i64 x.f2, .int .u32 x.f3, .bool x.f4.f0, .int .u32 x.f4.f1, .int .u32 x.f4.f2.f0, .int .i64 x.f4.f2.f1, .int .u32 x.f4.f2.f2], rfl, rfl, ⟨[.int .u32 x.f1], [.int .i64 x.f2, .int .u32 x.f3, .bool x.f4.f0, .int .u32 x.f4.f1, .int .u32 x.f4.f2.f0, .int .i64 x.f4.f2.f1, .int .u32 x.f4.f2.f2], rfl, rfl, ⟨[.int .i64 x.f2], [.int .u32 x.f3, .bool x.f4.f0, .int .u32 x.f4.f1, .int .u32 x.f4.f2.f0, .int .i64 x.f4.f2.f1, .int .u32 x.f4.f2.f2], rfl, rfl, ⟨[.int .u32 x.f3], [.bool x.f4.f0, .int .u32 x.f4.f1, .int .u32 x.f4.f2.f0, .int .i64 x.f4.f2.f1, .int .u32 x.f4.f2.f2], rfl, rfl, (k34_mkM w base ok x.f4 )⟩⟩⟩⟩

/-! #### struct type 37 -/
structure S37 where
  f0 : Int
  f1 : Int
  f2 : Int
def z37 : S37 := ⟨(0 : Int), (0 : Int), (0 : Int)⟩
def k37 : Kd S37 := Kd.iso (Kd.pair (Kd.int .i64) (Kd.pair (Kd.int .i64) (Kd.int .i64))) (fun x : S37 => (x.f0, x.f1, x.f2))
theorem k37_open {w : World} {x : S37} {cs : List Value} (h : k37.K w x cs) : cs = [.int .i64 x.f0, .int .i64 x.f1, .int .i64 x.f2] := by
  obtain ⟨_, _, rfl, rfl, ⟨_, _, rfl, rfl, rfl⟩⟩ := h
  exact rfl
theorem k37_openM {w : World} {base : Nat} {ok : Nat → Prop} {x : S37} {cs : List Value} (h : k37.M w base ok x cs) : cs = [.int .i64 x.f0, .int .i64 x.f1, .int .i64 x.f2] := by
  obtain ⟨_, _, rfl, rfl, ⟨_, _, rfl, rfl, rfl⟩⟩ := h
  exact rfl
theorem k37_mk (w : World) (x : S37)  : k37.K w x [.int .i64 x.f0, .int .i64 x.f1, .int .i64 x.f2] := ⟨[.int .i64 x.f0], [.int .i64 x.f1, .int .i64 x.f2], rfl, rfl, ⟨[.int .i64 x.f1], [.int .i64 x.f2], rfl, rfl, rfl⟩⟩
theorem k37_mkM (w : World) (base : Nat) (ok : Nat → Prop) (x : S37)  : k37.M w base ok x [.int .i64 x.f0, .int .i64 x.f1, .int .i64 x.f2] := ⟨[.int .i64 x.f0], [.int .i64 x.f1, .int .i64 x.f2], rfl, rfl, ⟨[.int .i64 x.f1], [.int .i64 x.f2], rfl, rfl, rfl⟩⟩

/-! #### struct type 39 -/
structure S39 where
  f0 : S29
  f1 : S36
  f2 : Int
  f3 : Int
  f4 : Bool
  f5 : S37
  f6 : Int
  f7 : Int
  f8 : Int
def z39 : S39 := ⟨z29, z36, (0 : Int), (0 : Int), false, z37, (0 : Int), (0 : Int), (0 : Int)⟩
def k39 : Kd S39 := Kd.iso (Kd.pair k29 (Kd.pair k36 (Kd.pair (Kd.int .i64) (Kd.pair (Kd.int .i64) (Kd.pair Kd.bool (Kd.pair k37 (Kd.pair (Kd.int .i64) (Kd.pair (Kd.int .i64) (Kd.int .u32))))))))) (fun x : S39 => (x.f0, x.f1, x.f2, x.f3, x.f4, x.f5, x.f6, x.f7, x.f8))
theorem k39_open {w : World} {x : S39} {cs : List Value} (h : k39.K w x cs) : cs = [.int .i64 x.f0.f0, .int .i64 x.f0.f1, .int .i64 x.f0.f2, .int .i64 x.f0.f3, .int .i64 x.f0.f4, .int .u32 x.f1.f0, .int .u32 x.f1.f1, .int .i64 x.f1.f2, .int .u32 x.f1.f3, .bool x.f1.f4.f0, .int .u32 x.f1.f4.f1, .int .u32 x.f1.f4.f2.f0, .int .i64 x.f1.f4.f2.f1, .int .u32 x.f1.f4.f2.f2, .int .i64 x.f2, .int .i64 x.f3, .bool x.f4, .int .i64 x.f5.f0, .int .i64 x.f5.f1, .int .i64 x.f5.f2, .int .i64 x.f6, .int .i64 x.f7, .int .u32 x.f8] := by
  obtain ⟨_, _, rfl, s0, ⟨_, _, rfl, s5, ⟨_, _, rfl, rfl, ⟨_, _, rfl, rfl, ⟨_, _, rfl, rfl, ⟨_, _, rfl, s17, ⟨_, _, rfl, rfl, ⟨_, _, rfl, rfl, rfl⟩⟩⟩⟩⟩⟩⟩⟩ := h
  obtain rfl := k29_open s0
  obtain rfl := k36_open s5
  obtain rfl := k37_open s17
  exact rfl
theorem k39_openM {w : World} {base : Nat} {ok : Nat → Prop} {x : S39} {cs : List Value} (h : k39.M w base ok x cs) : cs = [.int .i64 x.f0.f0, .int .i64 x.f0.f1, .int .i64 x.f0.f2, .int .i64 x.f0.f3, .int .i64 x.f0.f4, .int .u32 x.f1.f0, .int .u32 x.f1.f1, .int .i64 x.f1.f2, .int .u32 x.f1.f3, .bool x.f1.f4.f0, .int .u32 x.f1.f4.f1, .int .u32 x.f1.f4.f2.f0, .int .i64 x.f1.f4.f2.f1, .int .u32 x.f1.f4.f2.f2, .int .i64 x.f2, .int .i64 x.f3, .bool x.f4, .int .i64 x.f5.f0, .int .i64 x.f5.f1, .int .i64 x.f5.f2, .int .i64 x.f6, .int .i64 x.f7, .int .u32 x.f8] := by
  obtain ⟨_, _, rfl, s0, ⟨_, _, rfl, s5, ⟨_, _, rfl, rfl, ⟨_, _, rfl, rfl, ⟨_, _, rfl, rfl, ⟨_, _, rfl, s17, ⟨_, _, rfl, rfl, ⟨_, _, rfl, rfl, rfl⟩⟩⟩⟩⟩⟩⟩⟩ := h
  obtain rfl := k29_openM s0
  obtain rfl := k36_openM s5
  obtain rfl := k37_openM s17
  exact rfl
theorem k39_mk (w : World) (x : S39)  : k39.K w x [.int .i64 x.f0.f0, .int .i64 x.f0.f1, .int .i64 x.f0.f2, .int .i64 x.f0.f3, .int .i64 x.f0.f4, .int .u32 x.f1.f0, .int .u32 x.f1.f1, .int .i64 x.f1.f2, .int .u32 x.f1.f3, .bool x.f1.f4.f0, .int .u32 x.f1.f4.f1, .int .u32 x.f1.f4.f2.f0, .int .i64 x.f1.f4.f2.f1, .int .u32 x.f1.f4.f2.f2, .int .i64 x.f2, .int .i64 x.f3, .bool x.f4, .int .i64 x.f5.f0, .int .i64 x.f5.f1, .int .i64 x.f5.f2, .int .i64 x.f6, .int .i64 x.f7, .int .u32 x.f8] := ⟨[.int .i64 x.f0.f0, .int .i64 x.f0.f1, .int .i64 x.f0.f2, .int .i64 x.f0.f3, .int .i64 x.f0.f4], [.int .u32 x.f1.f0, .int .u32 x.f1.f1, .int .i64 x.f1.f2, .int .u32 x.f1.f3, .bool x.f1.f4.f0, .int .u32 x.f1.f4.f1, .int .u32 x.f1.f4.f2.f0, .int .i64 x.f1.f4.f2.f1, .int .u32 x.f1.f4.f2.f2, .int .i64 x.f2, .int .i64 x.f3, .bool x.f4, .int .i64 x.f5.f0, .int .i64 x.f5.f1, .int .i64 x.f5.f2, .int .i64 x.f6, .int .i64 x.f7, .int .u32 x.f8], rfl, (k29_mk w x.f0 ), ⟨[.int .u32 x.f1.f0, .int .u32 x.f1.f1, .int .i64 x.f1.f2, .int .u32 x.f1.f3, .bool x.f1.f4.f0, .int .u32 x.f1.f4.f1, .int .u32 x.f1.f4.f2.f0, .int .i64 x.f1.f4.f2.f1, .int .u32 x.f1.f4.f2.f2], [.int .i64 x.f2, .int .i64 x.f3, .bool x.f4, .int .i64 x.f5.f0, .int .i64 x.f5.f1, .int .i64 x.f5.f2, .int .i64 x.f6, .int .i64 x.f7, .int .u32 x.f8], rfl, (k36_mk w x.f1 ), ⟨[.int .i64 x.f2], [.int .i64 x.f3, .bool x.f4, .int .i64 x.f5.f0, .int .i64 x.f5.f1, .int .i64 x.f5.f2, .int .i64 x.f6, .int .i64 x.f7, .int .u32 x.f8], rfl, rfl, ⟨[.int .i64 x.f3], [.bool x.f4, .int .i64 x.f5.f0, .int .i64 x.f5.f1, .int .i64 x.f5.f2, .int .i64 x.f6, .int .i64 x.f7, .int .u32 x.f8], rfl, rfl, ⟨[.bool x.f4], [.int .i64 x.f5.f0, .int .i64 x.f5.f1, .int .i64 x.f5.f2, .int .i64 x.f6, .int .i64 x.f7, .int .u32 x.f8], rfl, rfl, ⟨[.int .i64 x.f5.f0, .int .i64 x.f5.f1, .int .i64 x.f5.f2], [.int .i64 x.f6, .int .i64 x.f7, .int .u32 x.f8], rfl, (k37_mk w x.f5 ), ⟨[.int .i64 x.f6], [.int .i64 x.f7, .int .u32 x.f8], rfl, rfl, ⟨[.int .i64 x.f7], [.int .u32 x.f8], rfl, rfl, rfl⟩⟩⟩⟩⟩⟩⟩⟩
theorem k39_mkM (w : World) (base : Nat) (ok : Nat → Prop) (x : S39)  : k39.M w base ok x [.int .i64 x.f0.f0, .int .i64 x.f0.f1, .int .i64 x.f0.f2, .int .i64 x.f0.f3, .int .i64 x.f0.f4, .int .u32 x.f1.f0, .int .u32 x.f1.f1, .int .i64 x.f1.f2, .int .u32 x.f1.f3, .bool x.f1.f4.f0, .int .u32 x.f1.f4.f1, .int .u32 x.f1.f4.f2.f0, .int .i64 x.f1.f4.f2.f1, .int .u32 x.f1.f4.f2.f2, .int .i64 x.f2, .int .i64 x.f3, .bool x.f4, .int .i64 x.f5.f0, .int .i64 x.f5.f1, .int .i64 x.f5.f2, .int .i64 x.f6, .int .i64 x.f7, .int .u32 x.f8] := ⟨[.int .i64 x.f0.f0, .int .i64 x.f0.f1, .int .i64 x.f0.f2, .int .i64 x.f0.f3, .int .i64 x.f0.f4], [.int .u32 x.f1.f0, .int .u32 x.f1.f1, .int .i64 x.f1.f2, .int .u32 x.f1.f3, .bool x.f1.f4.f0, .int .u32 x.f1.f4.f1, .int .u32 x.f1.f4.f2.f0, .int .i64 x.f1.f4.f2.f1, .int .u32 x.f1.f4.f2.f2, .int .i64 x.f2, .int .i64 x.f3, .bool x.f4, .int .i64 x.f5.f0, .int .i64 x.f5.f1, .int .i64 x.f5.f2, .int .i64 x.f6, .int .i64 x.f7, .int .u32 x.f8], rfl, (k29_mkM w base ok x.f0 ), ⟨[.int .u32 x.f1.f0, .int .u32 x.f1.f1, .int .i64 x.f1.f2, .int .u32 x.f1.f3, .bool x.f1.f4.f0, .int .u32 x.f1.f4.f1, .int .u32 x.f1.f4.f2.f0, .int .i64 x.f1.f4.f2.f1, .int .u32 x.f1.f4.f2.f2], [.int .i64 x.f2, .int .i64 x.f3, .bool x.f4, .int .i64 x.f5.f0, .int .i64 x.f5.f1, .int .i64 x.f5.f2, .int .i64 x.f6, .int .i64 x.f7, .int .u32 x.f8], rfl, (k36_mkM w base ok x.f1 ), ⟨[.int .i64 x.f2], [.int .i64 x.f3, .bool x.f4, .int .i64 x.f5.f0, .int .i64 x.f5.f1, .int .i64 x.f5.f2, .int .i64 x.f6, .int .i64 x.f7, .int .u32 x.f8], rfl, rfl, ⟨[.int .i64 x.f3], [.bool x.f4, .int .i64 x.f5.f0, .int .i64 x.f5.f1, .int .i64 x.f5.f2, .int .i64 x.f6, .int .i64 x.f7, .int .u32 x.f8], rfl, rfl, ⟨[.bool x.f4], [.int .i64 x.f5.f0, .int .i64 x.f5.f1, .int .i64 x.f5.f2, .int .i64 x.f6, .int .i64 x.f7, .int .u32 x.f8], rfl, rfl, ⟨[.int .i64 x.f5.f0, .int .i64 x.f5.f1, .int .i64 x.f5.f2], [.int .i64 x.f6, .int .i64 x.f7, .int .u32 x.f8], rfl, (k37_mkM w base ok x.f5 ), ⟨[.int .i64 x.f6], [.int .i64 x.f7, .int .u32 x.f8], rfl, rfl, ⟨[.int .i64 x.f7], [.int .u32 x.f8], rfl, rfl, rfl⟩⟩⟩⟩⟩⟩⟩⟩

/-! #### struct type 42 -/
structure S42 where
  f0 : S39
  f1 : Int
  f2 : S37
  f3 : Int
  f4 : Int
def z42 : S42 := ⟨z39, (0 : Int), z37, (0 : Int), (0 : Int)⟩
def k42 : Kd S42 := Kd.iso (Kd.pair k39 (Kd.pair (Kd.int .u64) (Kd.pair k37 (Kd.pair (Kd.int .i64) (Kd.int .i64))))) (fun x : S42 => (x.f0, x.f1, x.f2, x.f3, x.f4))
theorem k42_open {w : World} {x : S42} {cs : List Value} (h : k42.K w x cs) : cs = [.int .i64 x.f0.f0.f0, .int .i64 x.f0.f0.f1, .int .i64 x.f0.f0.f2, .int .i64 x.f0.f0.f3, .int .i64 x.f0.f0.f4, .int .u32 x.f0.f1.f0, .int .u32 x.f0.f1.f1, .int .i64 x.f0.f1.f2, .int .u32 x.f0.f1.f3, .bool x.f0.f1.f4.f0, .int .u32 x.f0.f1.f4.f1, .int .u32 x.f0.f1.f4.f2.f0, .int .i64 x.f0.f1.f4.f2.f1, .int .u32 x.f0.f1.f4.f2.f2, .int .i64 x.f0.f2, .int .i64 x.f0.f3, .bool x.f0.f4, .int .i64 x.f0.f5.f0, .int .i64 x.f0.f5.f1, .int .i64 x.f0.f5.f2, .int .i64 x.f0.f6, .int .i64 x.f0.f7, .int .u32 x.f0.f8, .int .u64 x.f1, .int .i64 x.f2.f0, .int .i64 x.f2.f1, .int .i64 x.f2.f2, .int .i64 x.f3, .int .i64 x.f4] := by
  obtain ⟨_, _, rfl, s0, ⟨_, _, rfl, rfl, ⟨_, _, rfl, s24, ⟨_, _, rfl, rfl, rfl⟩⟩⟩⟩ := h
  obtain rfl := k39_open s0
  obtain rfl := k37_open s24
  exact rfl
theorem k42_openM {w : World} {base : Nat} {ok : Nat → Prop} {x : S42} {cs : List Value} (h : k42.M w base ok x cs) : cs = [.int .i64 x.f0.f0.f0, .int .i64 x.f0.f0.f1, .int .i64 x.f0.f0.f2, .int .i64 x.f0.f0.f3, .int .i64 x.f0.f0.f4, .int .u32 x.f0.f1.f0, .int .u32 x.f0.f1.f1, .int .i64 x.f0.f1.f2, .int .u32 x.f0.f1.f3, .bool x.f0.f1.f4.f0, .int .u32 x.f0.f1.f4.f1, .int .u32 x.f0.f1.f4.f2.f0, .int .i64 x.f0.f1.f4.f2.f1, .int .u32 x.f0.f1.f4.f2.f2, .int .i64 x.f0.f2, .int .i64 x.f0.f3, .bool x.f0.f4, .int .i64 x.f0.f5.f0, .int .i64 x.f0.f5.f1, .int .i64 x.f0.f5.f2, .int .i64 x.f0.f6, .int .i64 x.f0.f7, .int .u32 x.f0.f8, .int .u64 x.f1, .int .i64 x.f2.f0, .int .i64 x.f2.f1, .int .i64 x.f2.f2, .int .i64 x.f3, .int .i64 x.f4] := by
  obtain ⟨_, _, rfl, s0, ⟨_, _, rfl, rfl, ⟨_, _, rfl, s24, ⟨_, _, rfl, rfl, rfl⟩⟩⟩⟩ := h
  obtain rfl := k39_openM s0
  obtain rfl := k37_openM s24
  exact rfl
theorem k42_mk (w : World) (x : S42)  : k42.K w x [.int .i64 x.f0.f0.f0, .int .i64 x.f0.f0.f1, .int .i64 x.f0.f0.f2, .int .i64 x.f0.f0.f3, .int .i64 x.f0.f0.f4, .int .u32 x.f0.f1.f0, .int .u32 x.f0.f1.f1, .int .i64 x.f0.f1.f2, .int .u32 x.f0.f1.f3, .bool x.f0.f1.f4.f0, .int .u32 x.f0.f1.f4.f1, .int .u32 x.f0.f1.f4.f2.f0, .int .i64 x.f0.f1.f4.f2.f1, .int .u32 x.f0.f1.f4.f2.f2, .int .i64 x.f0.f2, .int .i64 x.f0.f3, .bool x.f0.f4, .int .i64 x.f0.f5.f0, .int .i64 x.f0.f5.f1, .int .i64 x.f0.f5.f2, .int .i64 x.f0.f6, .int .i64 x.f0.f7, .int .u32 x.f0.f8, .int .u64 x.f1, .int .i64 x.f2.f0, .int .i64 x.f2.f1, .int .i64 x.f2.f2, .int .i64 x.f3, .int .i64 x.f4] := ⟨[.int .i64 x.f0.f0.f0, .int .i64 x.f0.f0.f1, .int .i64 x.f0.f0.f2, .int .i64 x.f0.f0.f3, .int .i64 x.f0.f0.f4, .int .u32 x.f0.f1.f0, .int .u32 x.f0.f1.f1, .int .i64 x.f0.f1.f2, .int .u32 x.f0.f1.f3, .bool x.f0.f1.f4.f0, .int .u32 x.f0.f1.f4.f1, .int .u32 x.f0.f1.f4.f2.f0, .int .i64 x.f0.f1.f4.f2.f1, .int .u32 x.f0.f1.f4.f2.f2, .int .i64 x.f0.f2, .int .i64 x.f0.f3, .bool x.f0.f4, .int .i64 x.f0.f5.f0, .int .i64 x.f0.f5.f1, .int .i64 x.f0.f5.f2, .int .i64 x.f0.f6, .int .i64 x.f0.f7, .int .u32 x.f0.f8], [.int .u64 x.f1, .int .i64 x.f2.f0, .int .i64 x.f2.f1, .int .i64 x.f2.f2, .int .i64 x.f3, .int .i64 x.f4], rfl, (k39_mk w x.f0 ), ⟨[.int .u64 x.f1], [.int .i64 x.f2.f0, .int .i64 x.f2.f1, .int .i64 x.f2.f2, .int .i64 x.f3, .int .i64 x.f4], rfl, rfl, ⟨[.int .i64 x.f2.f0, .int .i64 x.f2.f1, .int .i64 x.f2.f2], [.int .i64 x.f3, .int .i64 x.f4], rfl, (k37_mk w x.f2 ), ⟨[.int .i64 x.f3], [.int .i64 x.f4], rfl, rfl, rfl⟩⟩⟩⟩
theorem k42_mkM (w : World) (base : Nat) (ok : Nat → Prop) (x : S42)  : k42.M w base ok x [.int .i64 x.f0.f0.f0, .int .i64 x.f0.f0.f1, .int .i64 x.f0.f0.f2, .int .i64 x.f0.f0.f3, .int .i64 x.f0.f0.f4, .int .u32 x.f0.f1.f0, .int .u32 x.f0.f1.f1, .int .i64 x.f0.f1.f2, .int .u32 x.f0.f1.f3, .bool x.f0.f1.f4.f0, .int .u32 x.f0.f1.f4.f1, .int .u32 x.f0.f1.f4.f2.f0, .int .i64 x.f0.f1.f4.f2.f1, .int .u32 x.f0.f1.f4.f2.f2, .int .i64 x.f0.f2, .int .i64 x.f0.f3, .bool x.f0.f4, .int .i64 x.f0.f5.f0, .int .i64 x.f0.f5.f1, .int .i64 x.f0.f5.f2, .int .i64 x.f0.f6, .int .i64 x.f0.f7, .int .u32 x.f0.f8, .int .u64 x.f1, .int .i64 x.f2.f0, .int .i64 x.f2.f1, .int .i64 x.f2.f2, .int .i64 x.f3, .int .i64 x.f4] := ⟨[.int .i64 x.f0.f0.f0, .int .i64 x.f0.f0.f1, .int .i64 x.f0.f0.f2, .int .i64 x.f0.f0.f3, .int .i64 x.f0.f0.f4, .int .u32 x.f0.f1.f0, .int .u32 x.f0.f1.f1, .int .i64 x.f0.f1.f2, .int .u32 x.f0.f1.f3, .bool x.f0.f1.f4.f0, .int .u32 x.f0.f1.f4.f1, .int .u32 x.f0.f1.f4.f2.f0, .int .i64 x.f0.f1.f4.f2.f1, .int .u32 x.f0.f1.f4.f2.f2, .int .i64 x.f0.f2, .int .i64 x.f0.f3, .bool x.f0.f4, .int .i64 x.f0.f5.f0, .int .i64 x.f0.f5.f1, .int .i64 x.f0.f5.f2, .int .i64 x.f0.f6, .int .i64 x.f0.f7, .int .u32 x.f0.f8], [.int .u64 x.f1, .int .i64 x.f2.f0, .int .i64 x.f2.f1, .int .i64 x.f2.f2, .int .i64 x.f3, .int .i64 x.f4], rfl, (k39_mkM w base ok x.f0 ), ⟨[.int .u64 x.f1], [.int .i64 x.f2.f0, .int .i64 x.f2.f1, .int .i64 x.f2.f2, .int .i64 x.f3, .int .i64 x.f4], rfl, rfl, ⟨[.int .i64 x.f2.f0, .int .i64 x.f2.f1, .int .i64 x.f2.f2], [.int .i64 x.f3, .int .i64 x.f4], rfl, (k37_mkM w base ok x.f2 ), ⟨[.int .i64 x.f3], [.int .i64 x.f4], rfl, rfl, rfl⟩⟩⟩⟩

/-! #### struct type 44 -/
structure S44 where
  f0 : S42
  f1 : Int
  f2 : Int
  f3 : Int
  f4 : Int
  f5 : Int
  f6 : Int
def z44 : S44 := ⟨z42, (0 : Int), (0 : Int), (0 : Int), (0 : Int), (0 : Int), (0 : Int)⟩
def k44 : Kd S44 := Kd.iso (Kd.pair k42 (Kd.pair (Kd.int .i64) (Kd.pair (Kd.int .i64) (Kd.pair (Kd.int .u32) (Kd.pair (Kd.int .u32) (Kd.pair (Kd.int .i64) (Kd.int .u32))))))) (fun x : S44 => (x.f0, x.f1, x.f2, x.f3, x.f4, x.f5, x.f6))
theorem k44_open {w : World} {x : S44} {cs : List Value} (h : k44.K w x cs) : cs = [.int .i64 x.f0.f0.f0.f0, .int .i64 x.f0.f0.f0.f1, .int .i64 x.f0.f0.f0.f2, .int .i64 x.f0.f0.f0.f3, .int .i64 x.f0.f0.f0.f4, .int .u32 x.f0.f0.f1.f0, .int .u32 x.f0.f0.f1.f1, .int .i64 x.f0.f0.f1.f2, .int .u32 x.f0.f0.f1.f3, .bool x.f0.f0.f1.f4.f0, .int .u32 x.f0.f0.f1.f4.f1, .int .u32 x.f0.f0.f1.f4.f2.f0, .int .i64 x.f0.f0.f1.f4.f2.f1, .int .u32 x.f0.f0.f1.f4.f2.f2, .int .i64 x.f0.f0.f2, .int .i64 x.f0.f0.f3, .bool x.f0.f0.f4, .int .i64 x.f0.f0.f5.f0, .int .i64 x.f0.f0.f5.f1, .int .i64 x.f0.f0.f5.f2, .int .i64 x.f0.f0.f6, .int .i64 x.f0.f0.f7, .int .u32 x.f0.f0.f8, .int .u64 x.f0.f1, .int .i64 x.f0.f2.f0, .int .i64 x.f0.f2.f1, .int .i64 x.f0.f2.f2, .int .i64 x.f0.f3, .int .i64 x.f0.f4, .int .i64 x.f1, .int .i64 x.f2, .int .u32 x.f3, .int .u32 x.f4, .int .i64 x.f5, .int .u32 x.f6] := by
  obtain ⟨_, _, rfl, s0, ⟨_, _, rfl, rfl, ⟨_, _, rfl, rfl, ⟨_, _, rfl, rfl, ⟨_, _, rfl, rfl, ⟨_, _, rfl, rfl, rfl⟩⟩⟩⟩⟩⟩ := h
  obtain rfl := k42_open s0
  exact rfl
theorem k44_openM {w : World} {base : Nat} {ok : Nat → Prop} {x : S44} {cs : List Value} (h : k44.M w base ok x cs) : cs = [.int .i64 x.f0.f0.f0.f0, .int .i64 x.f0.f0.f0.f1, .int .i64 x.f0.f0.f0.f2, .int .i64 x.f0.f0.f0.f3, .int .i64 x.f0.f0.f0.f4, .int .u32 x.f0.f0.f1.f0, .int .u32 x.f0.f0.f1.f1, .int .i64 x.f0.f0.f1.f2, .int .u32 x.f0.f0.f1.f3, .bool x.f0.f0.f1.f4.f0, .int .u32 x.f0.f0.f1.f4.f1, .int .u32 x.f0.f0.f1.f4.f2.f0, .int .i64 x.f0.f0.f1.f4.f2.f1, .int .u32 x.f0.f0.f1.f4.f2.f2, .int .i64 x.f0.f0.f2, .int .i64 x.f0.f0.f3, .bool x.f0.f0.f4, .int .i64 x.f0.f0.f5.f0, .int .i64 x.f0.f0.f5.f1, .int .i64 x.f0.f0.f5.f2, .int .i64 x.f0.f0.f6, .int .i64 x.f0.f0.f7, .int .u32 x.f0.f0.f8, .int .u64 x.f0.f1, .int .i64 x.f0.f2.f0, .int .i64 x.f0.f2.f1, .int .i64 x.f0.f2.f2, .int .i64 x.f0.f3, .int .i64 x.f0.f4, .int .i64 x.f1, .int .i64 x.f2, .int .u32 x.f3, .int .u32 x.f4, .int .i64 x.f5, .int .u32 x.f6] := by
  obtain ⟨_, _, rfl, s0, ⟨_, _, rfl, rfl, ⟨_, _, rfl, rfl, ⟨_, _, rfl, rfl, ⟨_, _, rfl, rfl, ⟨_, _, rfl, rfl, rfl⟩⟩⟩⟩⟩⟩ := h
  obtain rfl := k42_openM s0
  exact rfl
theorem k44_mk (w : World) (x : S44)  : k44.K w x [.int .i64 x.f0.f0.f0.f0, .int .i64 x.f0.f0.f0.f1, .int .i64 x.f0.f0.f0.f2, .int .i64 x.f0.f0.f0.f3, .int .i64 x.f0.f0.f0.f4, .int .u32 x.f0.f0.f1.f0, .int .u32 x.f0.f0.f1.f1, .int .i64 x.f0.f0.f1.f2, .int .u32 x.f0.f0.f1.f3, .bool x.f0.f0.f1.f4.f0, .int .u32 x.f0.f0.f1.f4.f1, .int .u32 x.f0.f0.f1.f4.f2.f0, .int .i64 x.f0.f0.f1.f4.f2.f1, .int .u32 x.f0.f0.f1.f4.f2.f2, .int .i64 x.f0.f0.f2, .int .i64 x.f0.f0.f3, .bool x.f0.f0.f4, .int .i64 x.f0.f0.f5.f0, .int .i64 x.f0.f0.f5.f1, .int .i64 x.f0.f0.f5.f2, .int .i64 x.f0.f0.f6, .int .i64 x.f0.f0.f7, .int .u32 x.f0.f0.f8, .int .u64 x.f0.f1, .int .i64 x.f0.f2.f0, .int .i64 x.f0.f2.f1, .int .i64 x.f0.f2.f2, .int .i64 x.f0.f3, .int .i64 x.f0.f4, .int .i64 x.f1, .int .i64 x.f2, .int .u32 x.f3, .int .u32 x.f4, .int .i64 x.f5, .int .u32 x.f6] := ⟨[.int .i64 x.f0.f0.f0.f0, .int .i64 x.f0.f0.f0.f1, .int .i64 x.f0.f0.f0.f2, .int .i64 x.f0.f0.f0.f3, .int .i64 x.f0.f0.f0.f4, .int .u32 x.f0.f0.f1.f0, .int .u32 x.f0.f0.f1.f1, .int .i64 x.f0.f0.f1.f2, .int .u32 x.f0.f0.f1.f3, .bool x.f0.f0.f1.f4.f0, .int .u32 x.f0.f0.f1.f4.f1, .int .u32 x.f0.f0.f1.f4.f2.f0, .int .i64 x.f0.f0.f1.f4.f2.f1, .int .u32 x.f0.f0.f1.f4.f2.f2, .int .i64 x.f0.f0.f2, .int .i64 x.f0.f0.f3, .bool x.f0.f0.f4, .int .i64 x.f0.f0.f5.f0, .int .i64 x.f0.f0.f5.f1, .int .i64 x.f0.f0.f5.f2, .int .i64 x.f0.f0.f6, .int .i64 x.f0.f0.f7, .int .u32 x.f0.f0.f8, .int .u64 x.f0.f1, .int .i64 x.f0.f2.f0, .int .i64 x.f0.f2.f1, .int .i64 x.f0.f2.f2, .int .i64 x.f0.f3, .int .i64 x.f0.f4], [.int .i64 x.f1, .int .i64 x.f2, .int .u32 x.f3, .int .u32 x.f4, .int .i64 x.f5, .int .u32 x.f6], rfl, (k42_mk w x.f0 ), ⟨[.int .i64 x.f1], [.int .i64 x.f2, .int .u32 x.f3, .int .u32 x.f4, .int .i64 x.f5, .int .u32 x.f6], rfl, rfl, ⟨[.int .i64 x.f2], [.int .u32 x.f3, .int .u32 x.f4, .int .i64 x.f5, .int .u32 x.f6], rfl, rfl, ⟨[.int .u32 x.f3], [.int .u32 x.f4, .int .i64 x.f5, .int .u32 x.f6], rfl, rfl, ⟨[.int .u32 x.f4], [.int .i64 x.f5, .int .u32 x.f6], rfl, rfl, ⟨[.int .i64 x.f5], [.int .u32 x.f6], rfl, rfl, rfl⟩⟩⟩⟩⟩⟩
theorem k44_mkM (w : World) (base : Nat) (ok : Nat → Prop) (x : S44)  : k44.M w base ok x [.int .i64 x.f0.f0.f0.f0, .int .i64 x.f0.f0.f0.f1, .int .i64 x.f0.f0.f0.f2, .int .i64 x.f0.f0.f0.f3, .int .i64 x.f0.f0.f0.f4, .int .u32 x.f0.f0.f1.f0, .int .u32 x.f0.f0.f1.f1, .int .i64 x.f0.f0.f1.f2, .int .u32 x.f0.f0.f1.f3, .bool x.f0.f0.f1.f4.f0, .int .u32 x.f0.f0.f1.f4.f1, .int .u32 x.f0.f0.f1.f4.f2.f0, .int .i64 x.f0.f0.f1.f4.f2.f1, .int .u32 x.f0.f0.f1.f4.f2.f2, .int .i64 x.f0.f0.f2, .int .i64 x.f0.f0.f3, .bool x.f0.f0.f4, .int .i64 x.f0.f0.f5.f0, .int .i64 x.f0.f0.f5.f1, .int .i64 x.f0.f0.f5.f2, .int .i64 x.f0.f0.f6, .int .i64 x.f0.f0.f7, .int .u32 x.f0.f0.f8, .int .u64 x.f0.f1, .int .i64 x.f0.f2.f0, .int .i64 x.f0.f2.f1, .int .i64 x.f0.f2.f2, .int .i64 x.f0.f3, .int .i64 x.f0.f4, .int .i64 x.f1, .int .i64 x.f2, .int .u32 x.f3, .int .u32 x.f4, .int .i64 x.f5, .int .u32 x.f6] := ⟨[.int .i64 x.f0.f0.f0.f0, .int .i64 x.f0.f0.f0.f1, .int .i64 x.f0.f0.f0.f2, .int .i64 x.f0.f0.f0.f3, .int .i64 x.f0.f0.f0.f4, .int .u32 x.f0.f0.f1.f0, .int .u32 x.f0.f0.f1.f1, .int .i64 x.f0.f0.f1.f2, .int .u32 x.f0.f0.f1.f3, .bool x.f0.f0.f1.f4.f0, .int .u32 x.f0.f0.f1.f4.f1, .int .u32 x.f0.f0.f1.f4.f2.f0, .int .i64 x.f0.f0.f1.f4.f2.f1, .int .u32 x.f0.f0.f1.f4.f2.f2, .int .i64 x.f0.f0.f2, .int .i64 x.f0.f0.f3, .bool x.f0.f0.f4, .int .i64 x.f0.f0.f5.f0, .int .i64 x.f0.f0.f5.f1, .int .i64 x.f0.f0.f5.f2, .int .i64 x.f0.f0.f6, .int .i64 x.f0.f0.f7, .int .u32 x.f0.f0.f8, .int .u64 x.f0.f1, .int .i64 x.f0.f2.f0, .int .i64 x.f0.f2.f1, .int .i64 x.f0.f2.f2, .int .i64 x.f0.f3, .int .i64 x.f0.f4], [.int .i64 x.f1, .int .i64 x.f2, .int .u32 x.f3, .int .u32 x.f4, .int .i64 x.f5, .int .u32 x.f6], rfl, (k42_mkM w base ok x.f0 ), ⟨[.int .i64 x.f1], [.int .i64 x.f2, .int .u32 x.f3, .int .u32 x.f4, .int .i64 x.f5, .int .u32 x.f6], rfl, rfl, ⟨[.int .i64 x.f2], [.int .u32 x.f3, .int .u32 x.f4, .int .i64 x.f5, .int .u32 x.f6], rfl, rfl, ⟨[.int .u32 x.f3], [.int .u32 x.f4, .int .i64 x.f5, .int .u32 x.f6], rfl, rfl, ⟨[.int .u32 x.f4], [.int .i64 x.f5, .int .u32 x.f6], rfl, rfl, ⟨[.int .i64 x.f5], [.int .u32 x.f6], rfl, rfl, rfl⟩⟩⟩⟩⟩⟩
def rd_T44 (xs : List S44) (i : Int) : S44 := xs.getD i.toNat z44
theorem at_T44 {w : World} {A : Option Addr} {n : Nat} {xs : List S44} (h : Kd.C k44 w A n xs) (i : Int) (h0 : 0 ≤ i) (h1 : i < n) : ∃ ad , A = some ad ∧ w.cell? (ad.add (i.toNat * 35)) = some (.int .i64 (rd_T44 xs i).f0.f0.f0.f0) ∧ w.cell? ⟨(ad.add (i.toNat * 35)).block, (ad.add (i.toNat * 35)).off + 1, none⟩ = some (.int .i64 (rd_T44 xs i).f0.f0.f0.f1) ∧ w.cell? ⟨(ad.add (i.toNat * 35)).block, (ad.add (i.toNat * 35)).off + 2, none⟩ = some (.int .i64 (rd_T44 xs i).f0.f0.f0.f2) ∧ w.cell? ⟨(ad.add (i.toNat * 35)).block, (ad.add (i.toNat * 35)).off + 3, none⟩ = some (.int .i64 (rd_T44 xs i).f0.f0.f0.f3) ∧ w.cell? ⟨(ad.add (i.toNat * 35)).block, (ad.add (i.toNat * 35)).off + 4, none⟩ = some (.int .i64 (rd_T44 xs i).f0.f0.f0.f4) ∧ w.cell? ⟨(ad.add (i.toNat * 35)).block, (ad.add (i.toNat * 35)).off + 5, none⟩ = some (.int .u32 (rd_T44 xs i).f0.f0.f1.f0) ∧ w.cell? ⟨(ad.add (i.toNat * 35)).block, (ad.add (i.toNat * 35)).off + 6, none⟩ = some (.int .u32 (rd_T44 xs i).f0.f0.f1.f1) ∧ w.cell? ⟨(ad.add (i.toNat * 35)).block, (ad.add (i.toNat * 35)).off + 7, none⟩ = some (.int .i64 (rd_T44 xs i).f0.f0.f1.f2) ∧ w.cell? ⟨(ad.add (i.toNat * 35)).block, (ad.add (i.toNat * 35)).off + 8, none⟩ = some (.int .u32 (rd_T44 xs i).f0.f0.f1.f3) ∧ w.cell? ⟨(ad.add (i.toNat * 35)).block, (ad.add (i.toNat * 35)).off + 9, none⟩ = some (.bool (rd_T44 xs i).f0.f0.f1.f4.f0) ∧ w.cell? ⟨(ad.add (i.toNat * 35)).block, (ad.add (i.toNat * 35)).off + 10, none⟩ = some (.int .u32 (rd_T44 xs i).f0.f0.f1.f4.f1) ∧ w.cell? ⟨(ad.add (i.toNat * 35)).block, (ad.add (i.toNat * 35)).off + 11, none⟩ = some (.int .u32 (rd_T44 xs i).f0.f0.f1.f4.f2.f0) ∧ w.cell? ⟨(ad.add (i.toNat * 35)).block, (ad.add (i.toNat * 35)).off + 12, none⟩ = some (.int .i64 (rd_T44 xs i).f0.f0.f1.f4.f2.f1) ∧ w.cell? ⟨(ad.add (i.toNat * 35)).block, (ad.add (i.toNat * 35)).off + 13, none⟩ = some (.int .u32 (rd_T44 xs i).f0.f0.f1.f4.f2.f2) ∧ w.cell? ⟨(ad.add (i.toNat * 35)).block, (ad.add (i.toNat * 35)).off + 14, none⟩ = some (.int .i64 (rd_T44 xs i).f0.f0.f2) ∧ w.cell? ⟨(ad.add (i.toNat * 35)).block, (ad.add (i.toNat * 35)).off + 15, none⟩ = some (.int .i64 (rd_T44 xs i).f0.f0.f3) ∧ w.cell? ⟨(ad.add (i.toNat * 35)).block, (ad.add (i.toNat * 35)).off + 16, none⟩ = some (.bool (rd_T44 xs i).f0.f0.f4) ∧ w.cell? ⟨(ad.add (i.toNat * 35)).block, (ad.add (i.toNat * 35)).off + 17, none⟩ = some (.int .i64 (rd_T44 xs i).f0.f0.f5.f0) ∧ w.cell? ⟨(ad.add (i.toNat * 35)).block, (ad.add (i.toNat * 35)).off + 18, none⟩ = some (.int .i64 (rd_T44 xs i).f0.f0.f5.f1) ∧ w.cell? ⟨(ad.add (i.toNat * 35)).block, (ad.add (i.toNat * 35)).off + 19, none⟩ = some (.int .i64 (rd_T44 xs i).f0.f0.f5.f2) ∧ w.cell? ⟨(ad.add (i.toNat * 35)).block, (ad.add (i.toNat * 35)).off + 20, none⟩ = some (.int .i64 (rd_T44 xs i).f0.f0.f6) ∧ w.cell? ⟨(ad.add (i.toNat * 35)).block, (ad.add (i.toNat * 35)).off + 21, none⟩ = some (.int .i64 (rd_T44 xs i).f0.f0.f7) ∧ w.cell? ⟨(ad.add (i.toNat * 35)).block, (ad.add (i.toNat * 35)).off + 22, none⟩ = some (.int .u32 (rd_T44 xs i).f0.f0.f8) ∧ w.cell? ⟨(ad.add (i.toNat * 35)).block, (ad.add (i.toNat * 35)).off + 23, none⟩ = some (.int .u64 (rd_T44 xs i).f0.f1) ∧ w.cell? ⟨(ad.add (i.toNat * 35)).block, (ad.add (i.toNat * 35)).off + 24, none⟩ = some (.int .i64 (rd_T44 xs i).f0.f2.f0) ∧ w.cell? ⟨(ad.add (i.toNat * 35)).block, (ad.add (i.toNat * 35)).off + 25, none⟩ = some (.int .i64 (rd_T44 xs i).f0.f2.f1) ∧ w.cell? ⟨(ad.add (i.toNat * 35)).block, (ad.add (i.toNat * 35)).off + 26, none⟩ = some (.int .i64 (rd_T44 xs i).f0.f2.f2) ∧ w.cell? ⟨(ad.add (i.toNat * 35)).block, (ad.add (i.toNat * 35)).off + 27, none⟩ = some (.int .i64 (rd_T44 xs i).f0.f3) ∧ w.cell? ⟨(ad.add (i.toNat * 35)).block, (ad.add (i.toNat * 35)).off + 28, none⟩ = some (.int .i64 (rd_T44 xs i).f0.f4) ∧ w.cell? ⟨(ad.add (i.toNat * 35)).block, (ad.add (i.toNat * 35)).off + 29, none⟩ = some (.int .i64 (rd_T44 xs i).f1) ∧ w.cell? ⟨(ad.add (i.toNat * 35)).block, (ad.add (i.toNat * 35)).off + 30, none⟩ = some (.int .i64 (rd_T44 xs i).f2) ∧ w.cell? ⟨(ad.add (i.toNat * 35)).block, (ad.add (i.toNat * 35)).off + 31, none⟩ = some (.int .u32 (rd_T44 xs i).f3) ∧ w.cell? ⟨(ad.add (i.toNat * 35)).block, (ad.add (i.toNat * 35)).off + 32, none⟩ = some (.int .u32 (rd_T44 xs i).f4) ∧ w.cell? ⟨(ad.add (i.toNat * 35)).block, (ad.add (i.toNat * 35)).off + 33, none⟩ = some (.int .i64 (rd_T44 xs i).f5) ∧ w.cell? ⟨(ad.add (i.toNat * 35)).block, (ad.add (i.toNat * 35)).off + 34, none⟩ = some (.int .u32 (rd_T44 xs i).f6) := by
  obtain ⟨ad, c, e, _, hK, hc0⟩ := Kd.C_get h z44 i h0 h1
  have hc : ∀ j u, c[j]? = some u → w.cell? (ad.add (i.toNat * 35 + j)) = some u := hc0
  obtain rfl := k44_open hK
  exact ⟨ad, e, hc 0 _ rfl, by rw [← add_field _ _ 1 (by omega)]; exact hc 1 _ rfl, by rw [← add_field _ _ 2 (by omega)]; exact hc 2 _ rfl, by rw [← add_field _ _ 3 (by omega)]; exact hc 3 _ rfl, by rw [← add_field _ _ 4 (by omega)]; exact hc 4 _ rfl, by rw [← add_field _ _ 5 (by omega)]; exact hc 5 _ rfl, by rw [← add_field _ _ 6 (by omega)]; exact hc 6 _ rfl, by rw [← add_field _ _ 7 (by omega)]; exact hc 7 _ rfl, by rw [← add_field _ _ 8 (by omega)]; exact hc 8 _ rfl, by rw [← add_field _ _ 9 (by omega)]; exact hc 9 _ rfl, by rw [← add_field _ _ 10 (by omega)]; exact hc 10 _ rfl, by rw [← add_field _ _ 11 (by omega)]; exact hc 11 _ rfl, by rw [← add_field _ _ 12 (by omega)]; exact hc 12 _ rfl, by rw [← add_field _ _ 13 (by omega)]; exact hc 13 _ rfl, by rw [← add_field _ _ 14 (by omega)]; exact hc 14 _ rfl, by rw [← add_field _ _ 15 (by omega)]; exact hc 15 _ rfl, by rw [← add_field _ _ 16 (by omega)]; exact hc 16 _ rfl, by rw [← add_field _ _ 17 (by omega)]; exact hc 17 _ rfl, by rw [← add_field _ _ 18 (by omega)]; exact hc 18 _ rfl, by rw [← add_field _ _ 19 (by omega)]; exact hc 19 _ rfl, by rw [← add_field _ _ 20 (by omega)]; exact hc 20 _ rfl, by rw [← add_field _ _ 21 (by omega)]; exact hc 21 _ rfl, by rw [← add_field _ _ 22 (by omega)]; exact hc 22 _ rfl, by rw [← add_field _ _ 23 (by omega)]; exact hc 23 _ rfl, by rw [← add_field _ _ 24 (by omega)]; exact hc 24 _ rfl, by rw [← add_field _ _ 25 (by omega)]; exact hc 25 _ rfl, by rw [← add_field _ _ 26 (by omega)]; exact hc 26 _ rfl, by rw [← add_field _ _ 27 (by omega)]; exact hc 27 _ rfl, by rw [← add_field _ _ 28 (by omega)]; exact hc 28 _ rfl, by rw [← add_field _ _ 29 (by omega)]; exact hc 29 _ rfl, by rw [← add_field _ _ 30 (by omega)]; exact hc 30 _ rfl, by rw [← add_field _ _ 31 (by omega)]; exact hc 31 _ rfl, by rw [← add_field _ _ 32 (by omega)]; exact hc 32 _ rfl, by rw [← add_field _ _ 33 (by omega)]; exact hc 33 _ rfl, by rw [← add_field _ _ 34 (by omega)]; exact hc 34 _ rfl⟩

end Go.Proofs.Ytbkjdikiepnhbaa.Fl
