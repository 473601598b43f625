/- The row of TrapBack: for every input the call returns true and leaves all as it was. No condition. -/
import Derived.Test.YtegpadmlidaljaaRows
import Derived.Test.YtegpadmlidaljaaTrap5
import Derived.Test.YtegpadmlidaljaaOpen
import Derived.WalkKit
import Derived.ProofKit
import Derived.OpenShut
import Derived.ShutString
import Derived.ChangeOld
import Derived.Below
import Derived.SizedLaws
namespace Go.Proofs.Ytegpadmlidaljaa.trapBack
open Go.ChangeShapes Go.WideShapes Go.ChangeAt Go.RowKit
open Go.Proofs.Ytegpadmlidaljaa.Open Go.Proofs.Ytegpadmlidaljaa.Plain Go.Proofs.Ytegpadmlidaljaa.Csr Go.Proofs.Ytegpadmlidaljaa.Arch Go.Proofs.YtegpadmlidaljaaW.PrintWords
set_option linter.unusedVariables false
theorem own : ownKnob Try.prog.godebug = none := by kernel_rfl
theorem laidOut : laidOutB Try.prog = true := by kernel_rfl
set_option maxRecDepth 100000 in
theorem lifted (os : Os) (started : os.Started) (H : Type) (enc : TypeId × Value → H) :
    ReturnsInHanded {} Try.checked os 6 .any (Rows.trapBackSpec.pre6 enc Try.prog Try.f6 Rows.trapBackRow.domain false) (Rows.trapBackSpec.post enc Try.prog Try.f6 false true false false) := by
  refine returnsInHanded_of_change_sized (C := Try.checked) own started (by kernel_rfl) Try.func6
    (ChangeSpec.witness6 (enc := enc) (C := Try.checked) false ⟨#[], #[.agg #[.int .u32 0, .int .u32 0, .int .u32 0, .int .u32 0, .int .u32 0, .int .u32 0, .int .u32 0, .int .u32 0, .int .u32 0, .int .u32 0, .int .u32 0, .int .u32 0, .int .u32 0, .int .u32 0, .int .u32 0, .int .u32 0, .int .u32 0, .int .u32 0, .int .u32 0, .int .u32 0, .int .u32 0, .int .u32 0, .int .u32 0, .int .u32 0, .int .u32 0, .int .u32 0, .int .u32 0, .int .u32 0, .int .u32 0, .bool false], .int .i64 0, .agg #[.int .u32 0, .int .u32 0, .int .i64 0, .int .u32 0, .int .i64 0, .int .u32 0, .int .i64 0, .int .u32 0, .int .u32 0, .int .i64 0, .int .u32 0, .int .u32 0]], []⟩ 8 (by kernel_rfl) (by kernel_rfl) (by kernel_rfl) (by kernel_rfl)) ?_
  intro W base args ds gs before hval0 hW hcnd hsz0 _
  have hval : ∀ (j : Nat) t v, Try.f6.params[j]? = some t → args[j]? = some v → Value.okWide Try.prog W .any base t v := hval0
  have hW' := hW
  obtain ⟨p, q, hA0, hV, rfl, hfz, hnd⟩ := hW
  have hA : DataW.TrodAll enc Try.prog W 0 (fun _ => true) true Try.f6.params.toList args.toList ds p := hA0
  rw [Try.params6] at hA hval
  obtain ⟨v0, vs0, d0, ds0, p0, q0, hargs, rfl, rfl, h0, r0⟩ := trodAll_cons hA
  obtain ⟨v1, vs1, d1, ds1, p1, q1, rfl, rfl, rfl, h1, r1⟩ := trodAll_cons r0
  obtain ⟨v2, vs2, d2, ds2, p2, q2, rfl, rfl, rfl, h2, r2⟩ := trodAll_cons r1
  obtain ⟨rfl, rfl, rfl⟩ := trodAll_nil r2
  obtain rfl : args = #[v0, v1, v2] := by cases args; simp_all
  obtain ⟨rfl, rfl⟩ := trodVars_none hV
  have k0 := h0
  have lt0 : ∀ x ∈ p0, x.block < W.heap.size := by obtain ⟨m, hm⟩ := k0; exact DataW.trod_lt m _ _ _ hm
  obtain ⟨l0, rfl, hl0, hc0⟩ := cells_open [22, 22, 22, 22, 22, 22, 22, 22, 22, 22, 22, 22, 22, 22, 22, 22, 22, 22, 22, 22, 22, 22, 22, 22, 22, 22, 22, 22, 22, 4] (.inl ⟨_, Try.underlying26⟩) (by kernel_rfl) (by kernel_rfl) (hval 0 26 v0 rfl rfl)
  obtain _ | ⟨c0_0, l0⟩ := l0
  · simp at hl0
  obtain _ | ⟨c0_1, l0⟩ := l0
  · simp at hl0
  obtain _ | ⟨c0_2, l0⟩ := l0
  · simp at hl0
  obtain _ | ⟨c0_3, l0⟩ := l0
  · simp at hl0
  obtain _ | ⟨c0_4, l0⟩ := l0
  · simp at hl0
  obtain _ | ⟨c0_5, l0⟩ := l0
  · simp at hl0
  obtain _ | ⟨c0_6, l0⟩ := l0
  · simp at hl0
  obtain _ | ⟨c0_7, l0⟩ := l0
  · simp at hl0
  obtain _ | ⟨c0_8, l0⟩ := l0
  · simp at hl0
  obtain _ | ⟨c0_9, l0⟩ := l0
  · simp at hl0
  obtain _ | ⟨c0_10, l0⟩ := l0
  · simp at hl0
  obtain _ | ⟨c0_11, l0⟩ := l0
  · simp at hl0
  obtain _ | ⟨c0_12, l0⟩ := l0
  · simp at hl0
  obtain _ | ⟨c0_13, l0⟩ := l0
  · simp at hl0
  obtain _ | ⟨c0_14, l0⟩ := l0
  · simp at hl0
  obtain _ | ⟨c0_15, l0⟩ := l0
  · simp at hl0
  obtain _ | ⟨c0_16, l0⟩ := l0
  · simp at hl0
  obtain _ | ⟨c0_17, l0⟩ := l0
  · simp at hl0
  obtain _ | ⟨c0_18, l0⟩ := l0
  · simp at hl0
  obtain _ | ⟨c0_19, l0⟩ := l0
  · simp at hl0
  obtain _ | ⟨c0_20, l0⟩ := l0
  · simp at hl0
  obtain _ | ⟨c0_21, l0⟩ := l0
  · simp at hl0
  obtain _ | ⟨c0_22, l0⟩ := l0
  · simp at hl0
  obtain _ | ⟨c0_23, l0⟩ := l0
  · simp at hl0
  obtain _ | ⟨c0_24, l0⟩ := l0
  · simp at hl0
  obtain _ | ⟨c0_25, l0⟩ := l0
  · simp at hl0
  obtain _ | ⟨c0_26, l0⟩ := l0
  · simp at hl0
  obtain _ | ⟨c0_27, l0⟩ := l0
  · simp at hl0
  obtain _ | ⟨c0_28, l0⟩ := l0
  · simp at hl0
  obtain _ | ⟨c0_29, l0⟩ := l0
  · simp at hl0
  obtain _ | ⟨_, _⟩ := l0
  rotate_left
  · simp at hl0
  obtain ⟨c, e, o⟩ := hc0 0 22 rfl
  obtain rfl : c0_0 = c := by simpa using e
  obtain ⟨x0, rfl, wx0⟩ := cell_int Try.underlying22 o
  clear e
  obtain ⟨c, e, o⟩ := hc0 1 22 rfl
  obtain rfl : c0_1 = c := by simpa using e
  obtain ⟨x1, rfl, wx1⟩ := cell_int Try.underlying22 o
  clear e
  obtain ⟨c, e, o⟩ := hc0 2 22 rfl
  obtain rfl : c0_2 = c := by simpa using e
  obtain ⟨x2, rfl, wx2⟩ := cell_int Try.underlying22 o
  clear e
  obtain ⟨c, e, o⟩ := hc0 3 22 rfl
  obtain rfl : c0_3 = c := by simpa using e
  obtain ⟨x3, rfl, wx3⟩ := cell_int Try.underlying22 o
  clear e
  obtain ⟨c, e, o⟩ := hc0 4 22 rfl
  obtain rfl : c0_4 = c := by simpa using e
  obtain ⟨x4, rfl, wx4⟩ := cell_int Try.underlying22 o
  clear e
  obtain ⟨c, e, o⟩ := hc0 5 22 rfl
  obtain rfl : c0_5 = c := by simpa using e
  obtain ⟨x5, rfl, wx5⟩ := cell_int Try.underlying22 o
  clear e
  obtain ⟨c, e, o⟩ := hc0 6 22 rfl
  obtain rfl : c0_6 = c := by simpa using e
  obtain ⟨x6, rfl, wx6⟩ := cell_int Try.underlying22 o
  clear e
  obtain ⟨c, e, o⟩ := hc0 7 22 rfl
  obtain rfl : c0_7 = c := by simpa using e
  obtain ⟨x7, rfl, wx7⟩ := cell_int Try.underlying22 o
  clear e
  obtain ⟨c, e, o⟩ := hc0 8 22 rfl
  obtain rfl : c0_8 = c := by simpa using e
  obtain ⟨x8, rfl, wx8⟩ := cell_int Try.underlying22 o
  clear e
  obtain ⟨c, e, o⟩ := hc0 9 22 rfl
  obtain rfl : c0_9 = c := by simpa using e
  obtain ⟨x9, rfl, wx9⟩ := cell_int Try.underlying22 o
  clear e
  obtain ⟨c, e, o⟩ := hc0 10 22 rfl
  obtain rfl : c0_10 = c := by simpa using e
  obtain ⟨x10, rfl, wx10⟩ := cell_int Try.underlying22 o
  clear e
  obtain ⟨c, e, o⟩ := hc0 11 22 rfl
  obtain rfl : c0_11 = c := by simpa using e
  obtain ⟨x11, rfl, wx11⟩ := cell_int Try.underlying22 o
  clear e
  obtain ⟨c, e, o⟩ := hc0 12 22 rfl
  obtain rfl : c0_12 = c := by simpa using e
  obtain ⟨x12, rfl, wx12⟩ := cell_int Try.underlying22 o
  clear e
  obtain ⟨c, e, o⟩ := hc0 13 22 rfl
  obtain rfl : c0_13 = c := by simpa using e
  obtain ⟨x13, rfl, wx13⟩ := cell_int Try.underlying22 o
  clear e
  obtain ⟨c, e, o⟩ := hc0 14 22 rfl
  obtain rfl : c0_14 = c := by simpa using e
  obtain ⟨x14, rfl, wx14⟩ := cell_int Try.underlying22 o
  clear e
  obtain ⟨c, e, o⟩ := hc0 15 22 rfl
  obtain rfl : c0_15 = c := by simpa using e
  obtain ⟨x15, rfl, wx15⟩ := cell_int Try.underlying22 o
  clear e
  obtain ⟨c, e, o⟩ := hc0 16 22 rfl
  obtain rfl : c0_16 = c := by simpa using e
  obtain ⟨x16, rfl, wx16⟩ := cell_int Try.underlying22 o
  clear e
  obtain ⟨c, e, o⟩ := hc0 17 22 rfl
  obtain rfl : c0_17 = c := by simpa using e
  obtain ⟨x17, rfl, wx17⟩ := cell_int Try.underlying22 o
  clear e
  obtain ⟨c, e, o⟩ := hc0 18 22 rfl
  obtain rfl : c0_18 = c := by simpa using e
  obtain ⟨x18, rfl, wx18⟩ := cell_int Try.underlying22 o
  clear e
  obtain ⟨c, e, o⟩ := hc0 19 22 rfl
  obtain rfl : c0_19 = c := by simpa using e
  obtain ⟨x19, rfl, wx19⟩ := cell_int Try.underlying22 o
  clear e
  obtain ⟨c, e, o⟩ := hc0 20 22 rfl
  obtain rfl : c0_20 = c := by simpa using e
  obtain ⟨x20, rfl, wx20⟩ := cell_int Try.underlying22 o
  clear e
  obtain ⟨c, e, o⟩ := hc0 21 22 rfl
  obtain rfl : c0_21 = c := by simpa using e
  obtain ⟨x21, rfl, wx21⟩ := cell_int Try.underlying22 o
  clear e
  obtain ⟨c, e, o⟩ := hc0 22 22 rfl
  obtain rfl : c0_22 = c := by simpa using e
  obtain ⟨x22, rfl, wx22⟩ := cell_int Try.underlying22 o
  clear e
  obtain ⟨c, e, o⟩ := hc0 23 22 rfl
  obtain rfl : c0_23 = c := by simpa using e
  obtain ⟨x23, rfl, wx23⟩ := cell_int Try.underlying22 o
  clear e
  obtain ⟨c, e, o⟩ := hc0 24 22 rfl
  obtain rfl : c0_24 = c := by simpa using e
  obtain ⟨x24, rfl, wx24⟩ := cell_int Try.underlying22 o
  clear e
  obtain ⟨c, e, o⟩ := hc0 25 22 rfl
  obtain rfl : c0_25 = c := by simpa using e
  obtain ⟨x25, rfl, wx25⟩ := cell_int Try.underlying22 o
  clear e
  obtain ⟨c, e, o⟩ := hc0 26 22 rfl
  obtain rfl : c0_26 = c := by simpa using e
  obtain ⟨x26, rfl, wx26⟩ := cell_int Try.underlying22 o
  clear e
  obtain ⟨c, e, o⟩ := hc0 27 22 rfl
  obtain rfl : c0_27 = c := by simpa using e
  obtain ⟨x27, rfl, wx27⟩ := cell_int Try.underlying22 o
  clear e
  obtain ⟨c, e, o⟩ := hc0 28 22 rfl
  obtain rfl : c0_28 = c := by simpa using e
  obtain ⟨x28, rfl, wx28⟩ := cell_int Try.underlying22 o
  clear e
  obtain ⟨c, e, o⟩ := hc0 29 4 rfl
  obtain rfl : c0_29 = c := by simpa using e
  obtain ⟨x29, rfl⟩ := cell_bool Try.underlying4 o
  clear e
  obtain ⟨a1, rfl, rfl, rfl, w1⟩ := open_int Try.underlying3 (hval 1 3 v1 rfl rfl) h1
  have k2 := h2
  have lt2 : ∀ x ∈ p2, x.block < W.heap.size := by obtain ⟨m, hm⟩ := k2; exact DataW.trod_lt m _ _ _ hm
  obtain ⟨l2, rfl, hl2, hc2⟩ := cells_open [22, 22, 3, 22, 3, 22, 3, 22, 22, 3, 22, 22] (.inl ⟨_, Try.underlying28⟩) (by kernel_rfl) (by kernel_rfl) (hval 2 28 v2 rfl rfl)
  obtain _ | ⟨c2_0, l2⟩ := l2
  · simp at hl2
  obtain _ | ⟨c2_1, l2⟩ := l2
  · simp at hl2
  obtain _ | ⟨c2_2, l2⟩ := l2
  · simp at hl2
  obtain _ | ⟨c2_3, l2⟩ := l2
  · simp at hl2
  obtain _ | ⟨c2_4, l2⟩ := l2
  · simp at hl2
  obtain _ | ⟨c2_5, l2⟩ := l2
  · simp at hl2
  obtain _ | ⟨c2_6, l2⟩ := l2
  · simp at hl2
  obtain _ | ⟨c2_7, l2⟩ := l2
  · simp at hl2
  obtain _ | ⟨c2_8, l2⟩ := l2
  · simp at hl2
  obtain _ | ⟨c2_9, l2⟩ := l2
  · simp at hl2
  obtain _ | ⟨c2_10, l2⟩ := l2
  · simp at hl2
  obtain _ | ⟨c2_11, l2⟩ := l2
  · simp at hl2
  obtain _ | ⟨_, _⟩ := l2
  rotate_left
  · simp at hl2
  obtain ⟨c, e, o⟩ := hc2 0 22 rfl
  obtain rfl : c2_0 = c := by simpa using e
  obtain ⟨y0, rfl, wy0⟩ := cell_int Try.underlying22 o
  clear e
  obtain ⟨c, e, o⟩ := hc2 1 22 rfl
  obtain rfl : c2_1 = c := by simpa using e
  obtain ⟨y1, rfl, wy1⟩ := cell_int Try.underlying22 o
  clear e
  obtain ⟨c, e, o⟩ := hc2 2 3 rfl
  obtain rfl : c2_2 = c := by simpa using e
  obtain ⟨y2, rfl, wy2⟩ := cell_int Try.underlying3 o
  clear e
  obtain ⟨c, e, o⟩ := hc2 3 22 rfl
  obtain rfl : c2_3 = c := by simpa using e
  obtain ⟨y3, rfl, wy3⟩ := cell_int Try.underlying22 o
  clear e
  obtain ⟨c, e, o⟩ := hc2 4 3 rfl
  obtain rfl : c2_4 = c := by simpa using e
  obtain ⟨y4, rfl, wy4⟩ := cell_int Try.underlying3 o
  clear e
  obtain ⟨c, e, o⟩ := hc2 5 22 rfl
  obtain rfl : c2_5 = c := by simpa using e
  obtain ⟨y5, rfl, wy5⟩ := cell_int Try.underlying22 o
  clear e
  obtain ⟨c, e, o⟩ := hc2 6 3 rfl
  obtain rfl : c2_6 = c := by simpa using e
  obtain ⟨y6, rfl, wy6⟩ := cell_int Try.underlying3 o
  clear e
  obtain ⟨c, e, o⟩ := hc2 7 22 rfl
  obtain rfl : c2_7 = c := by simpa using e
  obtain ⟨y7, rfl, wy7⟩ := cell_int Try.underlying22 o
  clear e
  obtain ⟨c, e, o⟩ := hc2 8 22 rfl
  obtain rfl : c2_8 = c := by simpa using e
  obtain ⟨y8, rfl, wy8⟩ := cell_int Try.underlying22 o
  clear e
  obtain ⟨c, e, o⟩ := hc2 9 3 rfl
  obtain rfl : c2_9 = c := by simpa using e
  obtain ⟨y9, rfl, wy9⟩ := cell_int Try.underlying3 o
  clear e
  obtain ⟨c, e, o⟩ := hc2 10 22 rfl
  obtain rfl : c2_10 = c := by simpa using e
  obtain ⟨y10, rfl, wy10⟩ := cell_int Try.underlying22 o
  clear e
  obtain ⟨c, e, o⟩ := hc2 11 22 rfl
  obtain rfl : c2_11 = c := by simpa using e
  obtain ⟨y11, rfl, wy11⟩ := cell_int Try.underlying22 o
  clear e
  clear hA0 hval0 hsz0 hval
  refine (backs _ (arch_is [x0, x1, x2, x3, x4, x5, x6, x7, x8, x9, x10, x11, x12, x13, x14, x15, x16, x17, x18, x19, x20, x21, x22, x23, x24, x25, x26, x27, x28] rfl (List.forall_mem_cons.2 ⟨wfu wx0, List.forall_mem_cons.2 ⟨wfu wx1, List.forall_mem_cons.2 ⟨wfu wx2, List.forall_mem_cons.2 ⟨wfu wx3, List.forall_mem_cons.2 ⟨wfu wx4, List.forall_mem_cons.2 ⟨wfu wx5, List.forall_mem_cons.2 ⟨wfu wx6, List.forall_mem_cons.2 ⟨wfu wx7, List.forall_mem_cons.2 ⟨wfu wx8, List.forall_mem_cons.2 ⟨wfu wx9, List.forall_mem_cons.2 ⟨wfu wx10, List.forall_mem_cons.2 ⟨wfu wx11, List.forall_mem_cons.2 ⟨wfu wx12, List.forall_mem_cons.2 ⟨wfu wx13, List.forall_mem_cons.2 ⟨wfu wx14, List.forall_mem_cons.2 ⟨wfu wx15, List.forall_mem_cons.2 ⟨wfu wx16, List.forall_mem_cons.2 ⟨wfu wx17, List.forall_mem_cons.2 ⟨wfu wx18, List.forall_mem_cons.2 ⟨wfu wx19, List.forall_mem_cons.2 ⟨wfu wx20, List.forall_mem_cons.2 ⟨wfu wx21, List.forall_mem_cons.2 ⟨wfu wx22, List.forall_mem_cons.2 ⟨wfu wx23, List.forall_mem_cons.2 ⟨wfu wx24, List.forall_mem_cons.2 ⟨wfu wx25, List.forall_mem_cons.2 ⟨wfu wx26, List.forall_mem_cons.2 ⟨wfu wx27, List.forall_mem_cons.2 ⟨wfu wx28, List.forall_mem_nil _⟩⟩⟩⟩⟩⟩⟩⟩⟩⟩⟩⟩⟩⟩⟩⟩⟩⟩⟩⟩⟩⟩⟩⟩⟩⟩⟩⟩⟩) x29) a1 y0 y1 y2 y3 y4 y5 y6 y7 y8 y9 y10 y11 (wfu wy0) (wfu wy3) W).mono fun e W' ⟨he, bel⟩ => ?_
  subst he
  exact ⟨_, rfl, _, _, _, [], _, [], hW', trodAll_mk1 (shut_bool Try.underlying4 _), (trodAll_cons_mk (Below.trod laidOut (by kernel_rfl) (of_decide_eq_true (by kernel_rfl)) k0 bel lt0) (trodAll_cons_mk (shut_int Try.underlying3 w1) (trodAll_cons_mk (Below.trod laidOut (by kernel_rfl) (of_decide_eq_true (by kernel_rfl)) k2 bel lt2) trodAll_mk0))), rfl, bel.frame _, fun h => by cases h⟩
theorem over : Rows.trapBackRow.holds Try.pinned (OpenSpec.ofChange Rows.trapBackSpec) :=
  OpenClaim.holds_of_wide 6 Try.f6 rfl rfl rfl rfl rfl rfl rfl ⟨rfl, rfl, rfl, rfl, rfl⟩ rfl rfl rfl rfl rfl (by kernel_rfl) Try.func6 (by kernel_rfl)
    (of_decide_eq_true (by kernel_rfl)) (by unfold Func.isWrapper; first | (rw [if_pos (by decide +kernel)]; kernel_rfl) | (rw [if_neg (by decide +kernel)]; exact ⟨rfl, rfl⟩))
    (fun os started H enc _ => lifted os started H enc)
theorem proved : Rows.TrapBackSaid := over
#print axioms proved
end Go.Proofs.Ytegpadmlidaljaa.trapBack
namespace Go.Proofs.Ytegpadmlidaljaa
/-- The row, under a short name, for the claim. -/
theorem trapBack_holds : Rows.TrapBackSaid := trapBack.proved
end Go.Proofs.Ytegpadmlidaljaa
