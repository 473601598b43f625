/- The row of MulSteps: for every product under way (a struct by value) the call returns true and leaves all as it was. No condition. -/
import Derived.Test.YtghmllhcegioiaaRows
import Derived.Test.YtghmllhcegioiaaOMulStepsx4
import Derived.Test.YtghmllhcegioiaaPureMulSteps
import Derived.Test.YtghmllhcegioiaaOpen
import Derived.WalkKit
import Derived.ProofKit
import Derived.OpenShut
import Derived.ShutString
import Derived.ChangeOld
import Derived.Below
import Derived.SizedLaws
namespace Go.Proofs.Ytghmllhcegioiaa.mulSteps
open Go.ChangeShapes Go.WideShapes Go.ChangeAt Go.RowKit
open Go.Proofs.Ytghmllhcegioiaa.Open
set_option linter.unusedVariables false
theorem own : ownKnob Try.prog.godebug = none := by kernel_rfl
theorem laidOut : laidOutB Try.prog = true := by kernel_rfl
theorem walk (a0 a1 a2 a3 a4 : Int) (w : World) (w0 : (Lit.int .u32 a0).wf = true) (w1 : (Lit.int .u32 a1).wf = true) (w2 : (Lit.int .u32 a2).wf = true) (w3 : (Lit.int .u32 a3).wf = true) (w4 : (Lit.int .i64 a4).wf = true) :
    Calls Try.prog 7 #[.agg #[.int .u32 a0, .int .u32 a1, .int .u32 a2, .int .u32 a3, .int .i64 a4]] w fun e w' => e = .returned (.bool true) ∧ Below w.heap.size w w' := by
  obtain ⟨k, h⟩ := Pure.MulSteps a0 a1 a2 a3 a4 w0 w1 w2 w3 w4
  exact PMulSteps.cotterellaw04_MulSteps.calls k a0 a1 a2 a3 a4 true w h
set_option maxRecDepth 100000 in
theorem lifted (os : Os) (started : os.Started) (H : Type) (enc : TypeId × Value → H) :
    ReturnsInHanded {} Try.checked os 7 .any (Rows.mulStepsSpec.pre6 enc Try.prog Try.f7 Rows.mulStepsRow.domain false) (Rows.mulStepsSpec.post enc Try.prog Try.f7 false true false false) := by
  refine returnsInHanded_of_change_sized (C := Try.checked) own started (by kernel_rfl) Try.func7
    (ChangeSpec.witness6 (enc := enc) (C := Try.checked) false ⟨#[], #[.agg #[.int .u32 0, .int .u32 0, .int .u32 0, .int .u32 0, .int .i64 0]], []⟩ 8 (by kernel_rfl) (by kernel_rfl) (by kernel_rfl) (by kernel_rfl)) ?_
  intro W base args ds gs before hval0 hW hcnd hsz0 _
  have hval : ∀ (j : Nat) t v, Try.f7.params[j]? = some t → args[j]? = some v → Value.okWide Try.prog W .any base t v := hval0
  have hW' := hW
  obtain ⟨p, q, hA0, hV, rfl, hfz, hnd⟩ := hW
  have hA : DataW.TrodAll enc Try.prog W 0 (fun _ => true) true Try.f7.params.toList args.toList ds p := hA0
  rw [Try.params7] at hA hval
  obtain ⟨v0, vs0, d0, ds0, p0, q0, hargs, rfl, rfl, h0, r0⟩ := trodAll_cons hA
  obtain ⟨rfl, rfl, rfl⟩ := trodAll_nil r0
  obtain rfl : args = #[v0] := by cases args; simp_all
  obtain ⟨rfl, rfl⟩ := trodVars_none hV
  have k0 := h0
  have lt0 : ∀ x ∈ p0, x.block < W.heap.size := by obtain ⟨m, hm⟩ := k0; exact DataW.trod_lt m _ _ _ hm
  obtain ⟨l0, rfl, hl0, hc0⟩ := cells_open [22, 22, 22, 22, 3] (.inl ⟨_, Try.underlying35⟩) (by kernel_rfl) (by kernel_rfl) (hval 0 35 v0 rfl rfl)
  obtain _ | ⟨c0, _ | ⟨c1, _ | ⟨c2, _ | ⟨c3, _ | ⟨c4, _ | ⟨c5, l⟩⟩⟩⟩⟩⟩ := l0 <;> simp at hl0
  obtain ⟨c, e, o⟩ := hc0 0 22 rfl
  obtain rfl := Option.some.inj e
  obtain ⟨a0, rfl, w0⟩ := cell_int Try.underlying22 o
  obtain ⟨c, e, o⟩ := hc0 1 22 rfl
  obtain rfl := Option.some.inj e
  obtain ⟨a1, rfl, w1⟩ := cell_int Try.underlying22 o
  obtain ⟨c, e, o⟩ := hc0 2 22 rfl
  obtain rfl := Option.some.inj e
  obtain ⟨a2, rfl, w2⟩ := cell_int Try.underlying22 o
  obtain ⟨c, e, o⟩ := hc0 3 22 rfl
  obtain rfl := Option.some.inj e
  obtain ⟨a3, rfl, w3⟩ := cell_int Try.underlying22 o
  obtain ⟨c, e, o⟩ := hc0 4 3 rfl
  obtain rfl := Option.some.inj e
  obtain ⟨a4, rfl, w4⟩ := cell_int Try.underlying3 o
  clear hA0 hval0 hsz0 hc0
  refine (walk a0 a1 a2 a3 a4 W w0 w1 w2 w3 w4).mono fun e W' ⟨he, bel⟩ => ?_
  subst he
  exact ⟨_, rfl, _, _, _, [], _, [], hW', trodAll_mk1 (shut_bool Try.underlying4 _), (trodAll_cons_mk (Below.trod laidOut (by kernel_rfl) (of_decide_eq_true (by kernel_rfl)) k0 bel lt0) trodAll_mk0), rfl, bel.frame _, fun h => by cases h⟩
theorem over : Rows.mulStepsRow.holds Try.pinned (OpenSpec.ofChange Rows.mulStepsSpec) :=
  OpenClaim.holds_of_wide 7 Try.f7 rfl rfl rfl rfl rfl rfl rfl ⟨rfl, rfl, rfl, rfl, rfl⟩ rfl rfl rfl rfl rfl (by kernel_rfl) Try.func7 (by kernel_rfl)
    (of_decide_eq_true (by kernel_rfl)) (by unfold Func.isWrapper; first | (rw [if_pos (by decide +kernel)]; kernel_rfl) | (rw [if_neg (by decide +kernel)]; exact ⟨rfl, rfl⟩))
    (fun os started H enc _ => lifted os started H enc)
theorem proved : Rows.MulStepsSaid := over
#print axioms proved
end Go.Proofs.Ytghmllhcegioiaa.mulSteps
namespace Go.Proofs.Ytghmllhcegioiaa
/-- The row, under a short name, for the claim. -/
theorem mulSteps_holds : Rows.MulStepsSaid := mulSteps.proved
end Go.Proofs.Ytghmllhcegioiaa
