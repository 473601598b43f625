/- What the functions of csr and of its document come to, over a core's cells: walks of the code. The one condition is that the cells are a core's. -/
import Derived.Test.YtegpadmlidaljaaArch
import Derived.BigQuiet
import Derived.Deep.QuietTactic
namespace Go.Proofs.Ytegpadmlidaljaa.Csr
open Go Go.Proofs Go.RowKit Go.Proofs.YtegpadmlidaljaaW.PrintWords Go.Proofs.YtegpadmlidaljaaW.PrintLast Go.Proofs.YtegpadmlidaljaaW.PrintMore Go.Proofs.Ytegpadmlidaljaa.Boxes Go.Proofs.Ytegpadmlidaljaa.Arch
set_option linter.unusedVariables false
/-- Is a core in the kernel? -/
def kb (A : Array Value) : Bool := Go.bits .and .u32 (wd A 17) 1 != 0
set_option maxHeartbeats 400000 in
theorem kernel (A : Array Value) (hA : IsArch A) (w : World) :
    Calls Try.prog 18 #[.agg A] w fun e w' => e = .returned (.bool (kb A)) ∧ Below w.heap.size w w' := by
  have hs := hA.size
  have h17 : A[17]'(by omega) = .int .u32 (wd A 17) := by have := hA.at 17 (by decide); rw [Array.getElem?_eq_getElem (by omega)] at this; exact Option.some.inj this
  go_enter Try.func18, Try.ntmps18
  go_wp2
  go_ret
  exact ⟨rfl, (Below.refl _ _).alloc (Nat.le_refl _) _⟩
/-- The bits that a control register has. -/
def mk (n : Int) : Int := if n < 0 then 0 else if n ≥ 12 then 0 else [63, 31, 4294967295, 4294967295, 4294967295, 4294967232, 4294967295, 4294967295, 4294967295, 7, 7, 4294967295].getD n.toNat 0
theorem twelve {n : Int} (h0 : 0 ≤ n) (h1 : n < 12) : n = 0 ∨ n = 1 ∨ n = 2 ∨ n = 3 ∨ n = 4 ∨ n = 5 ∨ n = 6 ∨ n = 7 ∨ n = 8 ∨ n = 9 ∨ n = 10 ∨ n = 11 := by omega
set_option maxHeartbeats 4000000 in
theorem masked (n : Int) (w : World) :
    Calls Try.prog 19 #[.int .i64 n] w fun e w' => e = .returned (.int .u32 (mk n)) ∧ Below w.heap.size w w' := by
  by_cases h0 : n < 0
  · have e : mk n = 0 := by unfold mk; rw [if_pos h0]
    rw [e]
    clear e
    go_enter Try.func19, Try.ntmps19
    go_wp2
    go_ret
    exact ⟨rfl, by repeat (first | exact Below.refl _ _ | apply below_alloc | refine below_set ?_ (Nat.le_refl _))⟩
  · by_cases h1 : n ≥ 12
    · have e : mk n = 0 := by unfold mk; rw [if_neg h0, if_pos h1]
      rw [e]
      clear e
      go_enter Try.func19, Try.ntmps19
      go_wp2
      go_ret
      exact ⟨rfl, by repeat (first | exact Below.refl _ _ | apply below_alloc | refine below_set ?_ (Nat.le_refl _))⟩
    · rcases twelve (by omega) (show n < 12 by omega) with rfl | rfl | rfl | rfl | rfl | rfl | rfl | rfl | rfl | rfl | rfl | rfl
      all_goals
        clear h0 h1
        go_enter Try.func19, Try.ntmps19
        go_wp2
        go_ret
        exact ⟨rfl, by repeat (first | exact Below.refl _ _ | apply below_alloc | refine below_set ?_ (Nat.le_refl _))⟩
end Go.Proofs.Ytegpadmlidaljaa.Csr
