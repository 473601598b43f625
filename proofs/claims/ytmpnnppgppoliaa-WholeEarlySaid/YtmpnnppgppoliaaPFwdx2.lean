/- What fwd.Find comes to, in the form that the printed texts use. The conditions are those that the theorem names. -/
import Derived.Test.YtmpnnppgppoliaaFind
namespace Go.Proofs.Ytmpnnppgppoliaa.PFwd
set_option linter.unusedVariables false
set_option linter.unusedSimpArgs false
open Go.RowKit Go.Proofs.YtmpnnppgppoliaaW.PrintWords Go.Proofs.YtmpnnppgppoliaaW.PrintLast Go.Proofs.YtmpnnppgppoliaaW.PrintMore
def fwd_Find.f (k : Nat) (l0 : List (S37)) (l1 : List (S48)) (a2 : Int) (a3 : Int) (a4 : Int) : Option (Int × Int × Int) := some (findX a3 a4 (old a2 l0 l1))
theorem fwd_Find.mono : ∀ a0 a1 a2 a3 a4 k, LeO (fwd_Find.f k a0 a1 a2 a3 a4) (fwd_Find.f (k + 1) a0 a1 a2 a3 a4) := fun _ _ _ _ _ _ => LeO.refl _
theorem fwd_Find.calls (k : Nat) (A0 : Option Addr) (c0 : Nat) (l0 : List (S37)) (A1 : Option Addr) (c1 : Nat) (l1 : List (S48)) (a2 : Int) (a3 : Int) (a4 : Int) (r1 : Int) (r2 : Int) (r3 : Int) (w : World) (hr0 : Kd.C k37 w A0 l0.length l0) (hc0 : l0.length ≤ c0) (hr1 : Kd.C k48 w A1 l1.length l1) (hc1 : l1.length ≤ c1) (h : fwd_Find.f k l0 l1 a2 a3 a4 = some (r1, r2, r3)) :
    Calls Try.prog 14 #[.slice A0 l0.length c0, .slice A1 l1.length c1, .int .u64 a2, .int .u32 a3, .int .i64 a4] w fun e w' => e = .returned (.tuple #[.int .i64 r1, .int .u32 r2, .int .u64 r3]) ∧ Below w.heap.size w w' := by
  have h0 := hr0.2.1
  have h1 := hr1.2.1
  have e := Option.some.inj h
  have := find_walk A0 A1 c0 c1 l0 l1 a2 a3 a4 w hr0 hr1 (by omega) (by omega)
  rw [e] at this
  exact this
end Go.Proofs.Ytmpnnppgppoliaa.PFwd
