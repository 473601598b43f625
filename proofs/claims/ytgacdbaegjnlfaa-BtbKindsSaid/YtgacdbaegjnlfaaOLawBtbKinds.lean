/- The row of BtbKinds: for every input the call returns true and leaves all as it was. No condition. -/
import Derived.Test.YtgacdbaegjnlfaaRows
import Derived.Test.YtgacdbaegjnlfaaBtbP1
import Derived.Test.YtgacdbaegjnlfaaOpen
import Derived.WalkKit
import Derived.ProofKit
import Derived.OpenShut
import Derived.ShutString
import Derived.ChangeOld
import Derived.Below
import Derived.SizedLaws
namespace Go.Proofs.Ytgacdbaegjnlfaa.btbKinds
open Go.ChangeShapes Go.WideShapes Go.ChangeAt Go.RowKit
open Go.Proofs.Ytgacdbaegjnlfaa.Open Go.Proofs.Ytgacdbaegjnlfaa.PBtb Go.Proofs.YtgacdbaegjnlfaaW.PrintWords
set_option linter.unusedVariables false
theorem own : ownKnob Try.prog.godebug = none := by kernel_rfl
theorem laidOut : laidOutB Try.prog = true := by kernel_rfl
set_option maxRecDepth 100000 in
theorem lifted (os : Os) (started : os.Started) (H : Type) (enc : TypeId × Value → H) :
    ReturnsInHanded {} Try.checked os 5 .any (Rows.btbKindsSpec.pre6 enc Try.prog Try.f5 Rows.btbKindsRow.domain false) (Rows.btbKindsSpec.post enc Try.prog Try.f5 false true false false) := by
  refine returnsInHanded_of_change_sized (C := Try.checked) own started (by kernel_rfl) Try.func5
    (ChangeSpec.witness6 (enc := enc) (C := Try.checked) false ⟨#[], #[.agg #[.int .i64 0, .int .i64 0, .int .i64 0, .int .i64 0, .int .i64 0], .int .u32 0], []⟩ 8 (by kernel_rfl) (by kernel_rfl) (by kernel_rfl) (by kernel_rfl)) ?_
  intro W base args ds gs before hval0 hW hcnd hsz0 _
  have hval : ∀ (j : Nat) t v, Try.f5.params[j]? = some t → args[j]? = some v → Value.okWide Try.prog W .any base t v := hval0
  have hW' := hW
  obtain ⟨p, q, hA0, hV, rfl, hfz, hnd⟩ := hW
  have hA : DataW.TrodAll enc Try.prog W 0 (fun _ => true) true Try.f5.params.toList args.toList ds p := hA0
  rw [Try.params5] at hA hval
  obtain ⟨v0, vs0, d0, ds0, p0, q0, hargs, rfl, rfl, h0, r0⟩ := trodAll_cons hA
  obtain ⟨v1, vs1, d1, ds1, p1, q1, rfl, rfl, rfl, h1, r1⟩ := trodAll_cons r0
  obtain ⟨rfl, rfl, rfl⟩ := trodAll_nil r1
  obtain rfl : args = #[v0, v1] := by cases args; simp_all
  obtain ⟨rfl, rfl⟩ := trodVars_none hV
  have k0 := h0
  have lt0 : ∀ x ∈ p0, x.block < W.heap.size := by obtain ⟨m, hm⟩ := k0; exact DataW.trod_lt m _ _ _ hm
  obtain ⟨l0, rfl, hl0, hc0⟩ := cells_open [3, 3, 3, 3, 3] (.inl ⟨_, Try.underlying36⟩) (by kernel_rfl) (by kernel_rfl) (hval 0 36 v0 rfl rfl)
  obtain _ | ⟨c0_0, l0⟩ := l0
  · simp at hl0
  obtain _ | ⟨c0_1, l0⟩ := l0
  · simp at hl0
  obtain _ | ⟨c0_2, l0⟩ := l0
  · simp at hl0
  obtain _ | ⟨c0_3, l0⟩ := l0
  · simp at hl0
  obtain _ | ⟨c0_4, l0⟩ := l0
  · simp at hl0
  obtain _ | ⟨_, _⟩ := l0
  rotate_left
  · simp at hl0
  obtain ⟨c, e, o⟩ := hc0 0 3 rfl
  obtain rfl : c0_0 = c := by simpa using e
  obtain ⟨x0, rfl, wx0⟩ := cell_int Try.underlying3 o
  clear e
  obtain ⟨c, e, o⟩ := hc0 1 3 rfl
  obtain rfl : c0_1 = c := by simpa using e
  obtain ⟨x1, rfl, wx1⟩ := cell_int Try.underlying3 o
  clear e
  obtain ⟨c, e, o⟩ := hc0 2 3 rfl
  obtain rfl : c0_2 = c := by simpa using e
  obtain ⟨x2, rfl, wx2⟩ := cell_int Try.underlying3 o
  clear e
  obtain ⟨c, e, o⟩ := hc0 3 3 rfl
  obtain rfl : c0_3 = c := by simpa using e
  obtain ⟨x3, rfl, wx3⟩ := cell_int Try.underlying3 o
  clear e
  obtain ⟨c, e, o⟩ := hc0 4 3 rfl
  obtain rfl : c0_4 = c := by simpa using e
  obtain ⟨x4, rfl, wx4⟩ := cell_int Try.underlying3 o
  clear e
  obtain ⟨a1, rfl, rfl, rfl, w1⟩ := open_int Try.underlying23 (hval 1 23 v1 rfl rfl) h1
  clear hA0 hval0 hsz0 hval
  refine (cotterellaw19_BtbKinds.calls _ x0 x1 x2 x3 x4 a1 true W (kinds_pure x0 x1 x2 x3 x4 a1).choose_spec).mono fun e W' ⟨he, bel⟩ => ?_
  subst he
  exact ⟨_, rfl, _, _, _, [], _, [], hW', trodAll_mk1 (shut_bool Try.underlying4 _), (trodAll_cons_mk (Below.trod laidOut (by kernel_rfl) (of_decide_eq_true (by kernel_rfl)) k0 bel lt0) (trodAll_cons_mk (shut_int Try.underlying23 w1) trodAll_mk0)), rfl, bel.frame _, fun h => by cases h⟩
theorem over : Rows.btbKindsRow.holds Try.pinned (OpenSpec.ofChange Rows.btbKindsSpec) :=
  OpenClaim.holds_of_wide 5 Try.f5 rfl rfl rfl rfl rfl rfl rfl ⟨rfl, rfl, rfl, rfl, rfl⟩ rfl rfl rfl rfl rfl (by kernel_rfl) Try.func5 (by kernel_rfl)
    (of_decide_eq_true (by kernel_rfl)) (by unfold Func.isWrapper; first | (rw [if_pos (by decide +kernel)]; kernel_rfl) | (rw [if_neg (by decide +kernel)]; exact ⟨rfl, rfl⟩))
    (fun os started H enc _ => lifted os started H enc)
theorem proved : Rows.BtbKindsSaid := over
#print axioms proved
end Go.Proofs.Ytgacdbaegjnlfaa.btbKinds
namespace Go.Proofs.Ytgacdbaegjnlfaa
/-- The row, under a short name, for the claim. -/
theorem btbKinds_holds : Rows.BtbKindsSaid := btbKinds.proved
end Go.Proofs.Ytgacdbaegjnlfaa
