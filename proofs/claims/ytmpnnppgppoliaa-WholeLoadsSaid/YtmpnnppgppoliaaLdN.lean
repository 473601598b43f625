/- The law's walk, of whatever length. The condition: each deed is of numbers of its types. -/
import Derived.Test.YtmpnnppgppoliaaLdM
namespace Go.Proofs.Ytmpnnppgppoliaa.Ld
open Go Go.Proofs Go.RowKit Go.Proofs.YtmpnnppgppoliaaW.PrintWords Go.Proofs.YtmpnnppgppoliaaW.PrintLast Go.Proofs.YtmpnnppgppoliaaW.PrintMore Go.Proofs.Ytmpnnppgppoliaa.Boxes Go.Proofs.Ytmpnnppgppoliaa.PFwd
attribute [local go_sem] max2_int min2_int max_two min_two max_three min_three max_four min_four   -- for this text's walks alone
set_option linter.unusedVariables false
set_option linter.unusedSimpArgs false

set_option maxHeartbeats 8000000 in
set_option maxRecDepth 100000 in
theorem wholeLoads (A0 : Option Addr) (c0 : Nat) (l : List Dd) (w : World) (hr0 : Kd.C kD w A0 l.length l) (hgd : ∀ y ∈ l, GoodD y) :
    Calls Try.prog 4 #[.slice A0 l.length c0] w fun e w' => e = .returned (.bool true) ∧ Below w.heap.size w w' := by
  by_cases hl : (l.length : Int) > 60
  · have cb : decide (60 < (l.length : Int)) = true := decide_eq_true hl
    have HB11 := Aside0.mk (Below.refl w.heap.size w)
    go_enter Try.func4, Try.ntmps4
    go_wp2_with (first | (go_at_call 5; (with_reducible refine (awake _).mono ?_); rintro e_ w12 ⟨rfl, hB_⟩; have HB12 := Aside0.mk (below_step HB11.out hB_); clear hB_))
    go_ret
    exact ⟨rfl, HB12.out⟩
  · exact short A0 c0 l w hr0 hl hgd

end Go.Proofs.Ytmpnnppgppoliaa.Ld
