/- What fwd.Bytes comes to, in the form that the printed texts use. The conditions are those that the theorem names. -/
import Derived.Test.YtaeglelhoenfgaaBytes
namespace Go.Proofs.Ytaeglelhoenfgaa.PFwd
set_option linter.unusedVariables false
open Go.RowKit Go.Proofs.YtaeglelhoenfgaaW.PrintWords Go.Proofs.YtaeglelhoenfgaaW.PrintLast Go.Proofs.YtaeglelhoenfgaaW.PrintMore
def fwd_Bytes.f (k : Nat) (l0 : List (S37)) (l1 : List (S48)) (l2 : List Int) (a3 : Int) (a4 : Int) (a5 : Int) : Option (List Int) := some (bytesX l0 l1 l2 a3 a4 (mn (mx a5 0) 4).toNat)
theorem fwd_Bytes.mono : ∀ a0 a1 a2 a3 a4 a5 k, LeO (fwd_Bytes.f k a0 a1 a2 a3 a4 a5) (fwd_Bytes.f (k + 1) a0 a1 a2 a3 a4 a5) := fun _ _ _ _ _ _ _ => LeO.refl _
theorem fwd_Bytes.calls (k : Nat) (A0 : Option Addr) (c0 : Nat) (l0 : List (S37)) (A1 : Option Addr) (c1 : Nat) (l1 : List (S48)) (A2 : Option Addr) (c2 : Nat) (l2 : List Int) (a3 : Int) (a4 : Int) (a5 : Int) (r : List Int) (w : World) (hr0 : Kd.C k37 w A0 l0.length l0) (hc0 : l0.length ≤ c0) (hr1 : Kd.C k48 w A1 l1.length l1) (hc1 : l1.length ≤ c1) (hr2 : Kd.C (Kd.int .u8) w A2 l2.length l2) (hc2 : l2.length ≤ c2) (h : fwd_Bytes.f k l0 l1 l2 a3 a4 a5 = some r) :
    Calls Try.prog 19 #[.slice A0 l0.length c0, .slice A1 l1.length c1, .slice A2 l2.length c2, .int .u64 a3, .int .u32 a4, .int .i64 a5] w fun e w' => ∃ v0_ : Value, e = .returned (v0_) ∧ Kd.R (Kd.int .u8) 5 w' w.heap.size (fun _ => True) v0_ r ∧ Below w.heap.size w w' := by
  have h0 := hr0.2.1
  have h1 := hr1.2.1
  have e := Option.some.inj h
  rw [← e]
  exact bytes_walk A0 A1 A2 c0 c1 c2 l0 l1 l2 a3 a4 a5 w hr0 hr1 hr2 (by omega) (by omega)
end Go.Proofs.Ytaeglelhoenfgaa.PFwd
