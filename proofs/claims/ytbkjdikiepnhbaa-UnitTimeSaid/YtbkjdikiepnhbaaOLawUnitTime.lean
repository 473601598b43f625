/- The row of UnitTime: for every input the call returns true and leaves all as it was. No condition. -/
import Derived.Test.YtbkjdikiepnhbaaRows
import Derived.Test.YtbkjdikiepnhbaaFlDec
import Derived.Test.YtbkjdikiepnhbaaFlM
import Derived.Test.YtbkjdikiepnhbaaOpen
import Derived.WalkKit
import Derived.ProofKit
import Derived.OpenShut
import Derived.ShutString
import Derived.ChangeOld
import Derived.Below
import Derived.SizedLaws
namespace Go.Proofs.Ytbkjdikiepnhbaa.unitTime
open Go.ChangeShapes Go.WideShapes Go.ChangeAt Go.RowKit
open Go.Proofs.Ytbkjdikiepnhbaa.Open Go.Proofs.Ytbkjdikiepnhbaa.Fl Go.Proofs.YtbkjdikiepnhbaaW.PrintWords
set_option linter.unusedVariables false
theorem own : ownKnob Try.prog.godebug = none := by kernel_rfl
theorem laidOut : laidOutB Try.prog = true := by kernel_rfl
set_option maxRecDepth 100000 in
theorem lifted (os : Os) (started : os.Started) (H : Type) (enc : TypeId × Value → H) :
    ReturnsInHanded {} Try.checked os 5 .any (Rows.unitTimeSpec.pre6 enc Try.prog Try.f5 Rows.unitTimeRow.domain false) (Rows.unitTimeSpec.post enc Try.prog Try.f5 false true false false) := by
  refine returnsInHanded_of_change_sized (C := Try.checked) own started (by kernel_rfl) Try.func5
    (ChangeSpec.witness6 (enc := enc) (C := Try.checked) false ⟨#[], #[.agg #[.int .i64 0, .int .i64 0, .int .i64 0, .int .i64 0, .int .i64 0, .int .i64 0, .int .i64 0, .int .i64 0, .int .i64 0, .int .i64 0, .int .i64 0, .int .i64 0, .int .i64 0, .int .i64 0, .int .i64 0, .int .i64 0, .int .i64 0, .int .i64 0, .int .i64 0, .int .i64 0, .int .i64 0, .bool false], .slice none 0 0, .agg #[.int .i64 0, .int .i64 0, .int .i64 0, .int .i64 0, .int .i64 0, .int .u32 0, .int .u32 0, .int .i64 0, .int .u32 0, .bool false, .int .u32 0, .int .u32 0, .int .i64 0, .int .u32 0, .int .i64 0, .int .i64 0, .bool false, .int .i64 0, .int .i64 0, .int .i64 0, .int .i64 0, .int .i64 0, .int .u32 0, .int .u64 0, .int .i64 0, .int .i64 0, .int .i64 0, .int .i64 0, .int .i64 0, .int .i64 0, .int .i64 0, .int .u32 0, .int .u32 0, .int .i64 0, .int .u32 0]], []⟩ 8 (by kernel_rfl) (by kernel_rfl) (by kernel_rfl) (by kernel_rfl)) ?_
  intro W base args ds gs before hval0 hW hcnd hsz0 _
  have hval : ∀ (j : Nat) t v, Try.f5.params[j]? = some t → args[j]? = some v → Value.okWide Try.prog W .any base t v := hval0
  have hW' := hW
  obtain ⟨p, q, hA0, hV, rfl, hfz, hnd⟩ := hW
  have hA : DataW.TrodAll enc Try.prog W 0 (fun _ => true) true Try.f5.params.toList args.toList ds p := hA0
  rw [Try.params5] at hA hval
  obtain ⟨v0, vs0, d0, ds0, p0, q0, hargs, rfl, rfl, h0, r0⟩ := trodAll_cons hA
  obtain ⟨v1, vs1, d1, ds1, p1, q1, rfl, rfl, rfl, h1, r1⟩ := trodAll_cons r0
  obtain ⟨v2, vs2, d2, ds2, p2, q2, rfl, rfl, rfl, h2, r2⟩ := trodAll_cons r1
  obtain ⟨rfl, rfl, rfl⟩ := trodAll_nil r2
  obtain rfl : args = #[v0, v1, v2] := by cases args; simp_all
  obtain ⟨rfl, rfl⟩ := trodVars_none hV
  have k0 := h0
  have lt0 : ∀ x ∈ p0, x.block < W.heap.size := by obtain ⟨m, hm⟩ := k0; exact DataW.trod_lt m _ _ _ hm
  obtain ⟨l0, rfl, hl0, hc0⟩ := cells_open [3, 3, 3, 3, 3, 3, 3, 3, 3, 3, 3, 3, 3, 3, 3, 3, 3, 3, 3, 3, 3, 4] (.inl ⟨_, Try.underlying23⟩) (by kernel_rfl) (by kernel_rfl) (hval 0 23 v0 rfl rfl)
  obtain _ | ⟨c0_0, l0⟩ := l0
  · simp at hl0
  obtain _ | ⟨c0_1, l0⟩ := l0
  · simp at hl0
  obtain _ | ⟨c0_2, l0⟩ := l0
  · simp at hl0
  obtain _ | ⟨c0_3, l0⟩ := l0
  · simp at hl0
  obtain _ | ⟨c0_4, l0⟩ := l0
  · simp at hl0
  obtain _ | ⟨c0_5, l0⟩ := l0
  · simp at hl0
  obtain _ | ⟨c0_6, l0⟩ := l0
  · simp at hl0
  obtain _ | ⟨c0_7, l0⟩ := l0
  · simp at hl0
  obtain _ | ⟨c0_8, l0⟩ := l0
  · simp at hl0
  obtain _ | ⟨c0_9, l0⟩ := l0
  · simp at hl0
  obtain _ | ⟨c0_10, l0⟩ := l0
  · simp at hl0
  obtain _ | ⟨c0_11, l0⟩ := l0
  · simp at hl0
  obtain _ | ⟨c0_12, l0⟩ := l0
  · simp at hl0
  obtain _ | ⟨c0_13, l0⟩ := l0
  · simp at hl0
  obtain _ | ⟨c0_14, l0⟩ := l0
  · simp at hl0
  obtain _ | ⟨c0_15, l0⟩ := l0
  · simp at hl0
  obtain _ | ⟨c0_16, l0⟩ := l0
  · simp at hl0
  obtain _ | ⟨c0_17, l0⟩ := l0
  · simp at hl0
  obtain _ | ⟨c0_18, l0⟩ := l0
  · simp at hl0
  obtain _ | ⟨c0_19, l0⟩ := l0
  · simp at hl0
  obtain _ | ⟨c0_20, l0⟩ := l0
  · simp at hl0
  obtain _ | ⟨c0_21, l0⟩ := l0
  · simp at hl0
  obtain _ | ⟨_, _⟩ := l0
  rotate_left
  · simp at hl0
  obtain ⟨c, e, o⟩ := hc0 0 3 rfl
  obtain rfl : c0_0 = c := by simpa using e
  obtain ⟨x0, rfl, wx0⟩ := cell_int Try.underlying3 o
  clear e
  obtain ⟨c, e, o⟩ := hc0 1 3 rfl
  obtain rfl : c0_1 = c := by simpa using e
  obtain ⟨x1, rfl, wx1⟩ := cell_int Try.underlying3 o
  clear e
  obtain ⟨c, e, o⟩ := hc0 2 3 rfl
  obtain rfl : c0_2 = c := by simpa using e
  obtain ⟨x2, rfl, wx2⟩ := cell_int Try.underlying3 o
  clear e
  obtain ⟨c, e, o⟩ := hc0 3 3 rfl
  obtain rfl : c0_3 = c := by simpa using e
  obtain ⟨x3, rfl, wx3⟩ := cell_int Try.underlying3 o
  clear e
  obtain ⟨c, e, o⟩ := hc0 4 3 rfl
  obtain rfl : c0_4 = c := by simpa using e
  obtain ⟨x4, rfl, wx4⟩ := cell_int Try.underlying3 o
  clear e
  obtain ⟨c, e, o⟩ := hc0 5 3 rfl
  obtain rfl : c0_5 = c := by simpa using e
  obtain ⟨x5, rfl, wx5⟩ := cell_int Try.underlying3 o
  clear e
  obtain ⟨c, e, o⟩ := hc0 6 3 rfl
  obtain rfl : c0_6 = c := by simpa using e
  obtain ⟨x6, rfl, wx6⟩ := cell_int Try.underlying3 o
  clear e
  obtain ⟨c, e, o⟩ := hc0 7 3 rfl
  obtain rfl : c0_7 = c := by simpa using e
  obtain ⟨x7, rfl, wx7⟩ := cell_int Try.underlying3 o
  clear e
  obtain ⟨c, e, o⟩ := hc0 8 3 rfl
  obtain rfl : c0_8 = c := by simpa using e
  obtain ⟨x8, rfl, wx8⟩ := cell_int Try.underlying3 o
  clear e
  obtain ⟨c, e, o⟩ := hc0 9 3 rfl
  obtain rfl : c0_9 = c := by simpa using e
  obtain ⟨x9, rfl, wx9⟩ := cell_int Try.underlying3 o
  clear e
  obtain ⟨c, e, o⟩ := hc0 10 3 rfl
  obtain rfl : c0_10 = c := by simpa using e
  obtain ⟨x10, rfl, wx10⟩ := cell_int Try.underlying3 o
  clear e
  obtain ⟨c, e, o⟩ := hc0 11 3 rfl
  obtain rfl : c0_11 = c := by simpa using e
  obtain ⟨x11, rfl, wx11⟩ := cell_int Try.underlying3 o
  clear e
  obtain ⟨c, e, o⟩ := hc0 12 3 rfl
  obtain rfl : c0_12 = c := by simpa using e
  obtain ⟨x12, rfl, wx12⟩ := cell_int Try.underlying3 o
  clear e
  obtain ⟨c, e, o⟩ := hc0 13 3 rfl
  obtain rfl : c0_13 = c := by simpa using e
  obtain ⟨x13, rfl, wx13⟩ := cell_int Try.underlying3 o
  clear e
  obtain ⟨c, e, o⟩ := hc0 14 3 rfl
  obtain rfl : c0_14 = c := by simpa using e
  obtain ⟨x14, rfl, wx14⟩ := cell_int Try.underlying3 o
  clear e
  obtain ⟨c, e, o⟩ := hc0 15 3 rfl
  obtain rfl : c0_15 = c := by simpa using e
  obtain ⟨x15, rfl, wx15⟩ := cell_int Try.underlying3 o
  clear e
  obtain ⟨c, e, o⟩ := hc0 16 3 rfl
  obtain rfl : c0_16 = c := by simpa using e
  obtain ⟨x16, rfl, wx16⟩ := cell_int Try.underlying3 o
  clear e
  obtain ⟨c, e, o⟩ := hc0 17 3 rfl
  obtain rfl : c0_17 = c := by simpa using e
  obtain ⟨x17, rfl, wx17⟩ := cell_int Try.underlying3 o
  clear e
  obtain ⟨c, e, o⟩ := hc0 18 3 rfl
  obtain rfl : c0_18 = c := by simpa using e
  obtain ⟨x18, rfl, wx18⟩ := cell_int Try.underlying3 o
  clear e
  obtain ⟨c, e, o⟩ := hc0 19 3 rfl
  obtain rfl : c0_19 = c := by simpa using e
  obtain ⟨x19, rfl, wx19⟩ := cell_int Try.underlying3 o
  clear e
  obtain ⟨c, e, o⟩ := hc0 20 3 rfl
  obtain rfl : c0_20 = c := by simpa using e
  obtain ⟨x20, rfl, wx20⟩ := cell_int Try.underlying3 o
  clear e
  obtain ⟨c, e, o⟩ := hc0 21 4 rfl
  obtain rfl : c0_21 = c := by simpa using e
  obtain ⟨x21, rfl⟩ := cell_bool Try.underlying4 o
  clear e
  have k1 := h1
  have lt1 : ∀ x ∈ p1, x.block < W.heap.size := by obtain ⟨m, hm⟩ := k1; exact DataW.trod_lt m _ _ _ hm
  obtain ⟨A1, cap1, l1, rfl, hc1, hm1, hr1, hg1⟩ := open_row (R := (k44.K W)) (good := G44) 35 Try.underlying24 (by kernel_rfl) (fun n cs x hl h => dec44 W n cs x hl h) (okWide_slice Try.underlying24 (hval 1 24 v1 rfl rfl)) h1
  have k2 := h2
  have lt2 : ∀ x ∈ p2, x.block < W.heap.size := by obtain ⟨m, hm⟩ := k2; exact DataW.trod_lt m _ _ _ hm
  obtain ⟨l2, rfl, hl2, hc2⟩ := cells_open [3, 3, 3, 3, 3, 30, 30, 3, 30, 4, 30, 30, 3, 30, 3, 3, 4, 3, 3, 3, 3, 3, 30, 40, 3, 3, 3, 3, 3, 3, 3, 30, 30, 3, 30] (.inl ⟨_, Try.underlying44⟩) (by kernel_rfl) (by kernel_rfl) (hval 2 44 v2 rfl rfl)
  obtain _ | ⟨c2_0, l2⟩ := l2
  · simp at hl2
  obtain _ | ⟨c2_1, l2⟩ := l2
  · simp at hl2
  obtain _ | ⟨c2_2, l2⟩ := l2
  · simp at hl2
  obtain _ | ⟨c2_3, l2⟩ := l2
  · simp at hl2
  obtain _ | ⟨c2_4, l2⟩ := l2
  · simp at hl2
  obtain _ | ⟨c2_5, l2⟩ := l2
  · simp at hl2
  obtain _ | ⟨c2_6, l2⟩ := l2
  · simp at hl2
  obtain _ | ⟨c2_7, l2⟩ := l2
  · simp at hl2
  obtain _ | ⟨c2_8, l2⟩ := l2
  · simp at hl2
  obtain _ | ⟨c2_9, l2⟩ := l2
  · simp at hl2
  obtain _ | ⟨c2_10, l2⟩ := l2
  · simp at hl2
  obtain _ | ⟨c2_11, l2⟩ := l2
  · simp at hl2
  obtain _ | ⟨c2_12, l2⟩ := l2
  · simp at hl2
  obtain _ | ⟨c2_13, l2⟩ := l2
  · simp at hl2
  obtain _ | ⟨c2_14, l2⟩ := l2
  · simp at hl2
  obtain _ | ⟨c2_15, l2⟩ := l2
  · simp at hl2
  obtain _ | ⟨c2_16, l2⟩ := l2
  · simp at hl2
  obtain _ | ⟨c2_17, l2⟩ := l2
  · simp at hl2
  obtain _ | ⟨c2_18, l2⟩ := l2
  · simp at hl2
  obtain _ | ⟨c2_19, l2⟩ := l2
  · simp at hl2
  obtain _ | ⟨c2_20, l2⟩ := l2
  · simp at hl2
  obtain _ | ⟨c2_21, l2⟩ := l2
  · simp at hl2
  obtain _ | ⟨c2_22, l2⟩ := l2
  · simp at hl2
  obtain _ | ⟨c2_23, l2⟩ := l2
  · simp at hl2
  obtain _ | ⟨c2_24, l2⟩ := l2
  · simp at hl2
  obtain _ | ⟨c2_25, l2⟩ := l2
  · simp at hl2
  obtain _ | ⟨c2_26, l2⟩ := l2
  · simp at hl2
  obtain _ | ⟨c2_27, l2⟩ := l2
  · simp at hl2
  obtain _ | ⟨c2_28, l2⟩ := l2
  · simp at hl2
  obtain _ | ⟨c2_29, l2⟩ := l2
  · simp at hl2
  obtain _ | ⟨c2_30, l2⟩ := l2
  · simp at hl2
  obtain _ | ⟨c2_31, l2⟩ := l2
  · simp at hl2
  obtain _ | ⟨c2_32, l2⟩ := l2
  · simp at hl2
  obtain _ | ⟨c2_33, l2⟩ := l2
  · simp at hl2
  obtain _ | ⟨c2_34, l2⟩ := l2
  · simp at hl2
  obtain _ | ⟨_, _⟩ := l2
  rotate_left
  · simp at hl2
  obtain ⟨c, e, o⟩ := hc2 0 3 rfl
  obtain rfl : c2_0 = c := by simpa using e
  obtain ⟨y0, rfl, wy0⟩ := cell_int Try.underlying3 o
  clear e
  obtain ⟨c, e, o⟩ := hc2 1 3 rfl
  obtain rfl : c2_1 = c := by simpa using e
  obtain ⟨y1, rfl, wy1⟩ := cell_int Try.underlying3 o
  clear e
  obtain ⟨c, e, o⟩ := hc2 2 3 rfl
  obtain rfl : c2_2 = c := by simpa using e
  obtain ⟨y2, rfl, wy2⟩ := cell_int Try.underlying3 o
  clear e
  obtain ⟨c, e, o⟩ := hc2 3 3 rfl
  obtain rfl : c2_3 = c := by simpa using e
  obtain ⟨y3, rfl, wy3⟩ := cell_int Try.underlying3 o
  clear e
  obtain ⟨c, e, o⟩ := hc2 4 3 rfl
  obtain rfl : c2_4 = c := by simpa using e
  obtain ⟨y4, rfl, wy4⟩ := cell_int Try.underlying3 o
  clear e
  obtain ⟨c, e, o⟩ := hc2 5 30 rfl
  obtain rfl : c2_5 = c := by simpa using e
  obtain ⟨y5, rfl, wy5⟩ := cell_int Try.underlying30 o
  clear e
  obtain ⟨c, e, o⟩ := hc2 6 30 rfl
  obtain rfl : c2_6 = c := by simpa using e
  obtain ⟨y6, rfl, wy6⟩ := cell_int Try.underlying30 o
  clear e
  obtain ⟨c, e, o⟩ := hc2 7 3 rfl
  obtain rfl : c2_7 = c := by simpa using e
  obtain ⟨y7, rfl, wy7⟩ := cell_int Try.underlying3 o
  clear e
  obtain ⟨c, e, o⟩ := hc2 8 30 rfl
  obtain rfl : c2_8 = c := by simpa using e
  obtain ⟨y8, rfl, wy8⟩ := cell_int Try.underlying30 o
  clear e
  obtain ⟨c, e, o⟩ := hc2 9 4 rfl
  obtain rfl : c2_9 = c := by simpa using e
  obtain ⟨y9, rfl⟩ := cell_bool Try.underlying4 o
  clear e
  obtain ⟨c, e, o⟩ := hc2 10 30 rfl
  obtain rfl : c2_10 = c := by simpa using e
  obtain ⟨y10, rfl, wy10⟩ := cell_int Try.underlying30 o
  clear e
  obtain ⟨c, e, o⟩ := hc2 11 30 rfl
  obtain rfl : c2_11 = c := by simpa using e
  obtain ⟨y11, rfl, wy11⟩ := cell_int Try.underlying30 o
  clear e
  obtain ⟨c, e, o⟩ := hc2 12 3 rfl
  obtain rfl : c2_12 = c := by simpa using e
  obtain ⟨y12, rfl, wy12⟩ := cell_int Try.underlying3 o
  clear e
  obtain ⟨c, e, o⟩ := hc2 13 30 rfl
  obtain rfl : c2_13 = c := by simpa using e
  obtain ⟨y13, rfl, wy13⟩ := cell_int Try.underlying30 o
  clear e
  obtain ⟨c, e, o⟩ := hc2 14 3 rfl
  obtain rfl : c2_14 = c := by simpa using e
  obtain ⟨y14, rfl, wy14⟩ := cell_int Try.underlying3 o
  clear e
  obtain ⟨c, e, o⟩ := hc2 15 3 rfl
  obtain rfl : c2_15 = c := by simpa using e
  obtain ⟨y15, rfl, wy15⟩ := cell_int Try.underlying3 o
  clear e
  obtain ⟨c, e, o⟩ := hc2 16 4 rfl
  obtain rfl : c2_16 = c := by simpa using e
  obtain ⟨y16, rfl⟩ := cell_bool Try.underlying4 o
  clear e
  obtain ⟨c, e, o⟩ := hc2 17 3 rfl
  obtain rfl : c2_17 = c := by simpa using e
  obtain ⟨y17, rfl, wy17⟩ := cell_int Try.underlying3 o
  clear e
  obtain ⟨c, e, o⟩ := hc2 18 3 rfl
  obtain rfl : c2_18 = c := by simpa using e
  obtain ⟨y18, rfl, wy18⟩ := cell_int Try.underlying3 o
  clear e
  obtain ⟨c, e, o⟩ := hc2 19 3 rfl
  obtain rfl : c2_19 = c := by simpa using e
  obtain ⟨y19, rfl, wy19⟩ := cell_int Try.underlying3 o
  clear e
  obtain ⟨c, e, o⟩ := hc2 20 3 rfl
  obtain rfl : c2_20 = c := by simpa using e
  obtain ⟨y20, rfl, wy20⟩ := cell_int Try.underlying3 o
  clear e
  obtain ⟨c, e, o⟩ := hc2 21 3 rfl
  obtain rfl : c2_21 = c := by simpa using e
  obtain ⟨y21, rfl, wy21⟩ := cell_int Try.underlying3 o
  clear e
  obtain ⟨c, e, o⟩ := hc2 22 30 rfl
  obtain rfl : c2_22 = c := by simpa using e
  obtain ⟨y22, rfl, wy22⟩ := cell_int Try.underlying30 o
  clear e
  obtain ⟨c, e, o⟩ := hc2 23 40 rfl
  obtain rfl : c2_23 = c := by simpa using e
  obtain ⟨y23, rfl, wy23⟩ := cell_int Try.underlying40 o
  clear e
  obtain ⟨c, e, o⟩ := hc2 24 3 rfl
  obtain rfl : c2_24 = c := by simpa using e
  obtain ⟨y24, rfl, wy24⟩ := cell_int Try.underlying3 o
  clear e
  obtain ⟨c, e, o⟩ := hc2 25 3 rfl
  obtain rfl : c2_25 = c := by simpa using e
  obtain ⟨y25, rfl, wy25⟩ := cell_int Try.underlying3 o
  clear e
  obtain ⟨c, e, o⟩ := hc2 26 3 rfl
  obtain rfl : c2_26 = c := by simpa using e
  obtain ⟨y26, rfl, wy26⟩ := cell_int Try.underlying3 o
  clear e
  obtain ⟨c, e, o⟩ := hc2 27 3 rfl
  obtain rfl : c2_27 = c := by simpa using e
  obtain ⟨y27, rfl, wy27⟩ := cell_int Try.underlying3 o
  clear e
  obtain ⟨c, e, o⟩ := hc2 28 3 rfl
  obtain rfl : c2_28 = c := by simpa using e
  obtain ⟨y28, rfl, wy28⟩ := cell_int Try.underlying3 o
  clear e
  obtain ⟨c, e, o⟩ := hc2 29 3 rfl
  obtain rfl : c2_29 = c := by simpa using e
  obtain ⟨y29, rfl, wy29⟩ := cell_int Try.underlying3 o
  clear e
  obtain ⟨c, e, o⟩ := hc2 30 3 rfl
  obtain rfl : c2_30 = c := by simpa using e
  obtain ⟨y30, rfl, wy30⟩ := cell_int Try.underlying3 o
  clear e
  obtain ⟨c, e, o⟩ := hc2 31 30 rfl
  obtain rfl : c2_31 = c := by simpa using e
  obtain ⟨y31, rfl, wy31⟩ := cell_int Try.underlying30 o
  clear e
  obtain ⟨c, e, o⟩ := hc2 32 30 rfl
  obtain rfl : c2_32 = c := by simpa using e
  obtain ⟨y32, rfl, wy32⟩ := cell_int Try.underlying30 o
  clear e
  obtain ⟨c, e, o⟩ := hc2 33 3 rfl
  obtain rfl : c2_33 = c := by simpa using e
  obtain ⟨y33, rfl, wy33⟩ := cell_int Try.underlying3 o
  clear e
  obtain ⟨c, e, o⟩ := hc2 34 30 rfl
  obtain rfl : c2_34 = c := by simpa using e
  obtain ⟨y34, rfl, wy34⟩ := cell_int Try.underlying30 o
  clear e
  clear hA0 hval0 hsz0 hval
  refine (unitTime (⟨[.int .i64 x0, .int .i64 x1, .int .i64 x2, .int .i64 x3, .int .i64 x4, .int .i64 x5, .int .i64 x6, .int .i64 x7, .int .i64 x8, .int .i64 x9, .int .i64 x10, .int .i64 x11, .int .i64 x12, .int .i64 x13, .int .i64 x14, .int .i64 x15, .int .i64 x16, .int .i64 x17, .int .i64 x18, .int .i64 x19, .int .i64 x20, .bool x21], rfl, by simp [Value.oneCell'], rfl, rfl⟩ : Cf x16 x17) A1 cap1 l1 (⟨⟨⟨⟨y0, y1, y2, y3, y4⟩, ⟨y5, y6, y7, y8, ⟨y9, y10, ⟨y11, y12, y13⟩⟩⟩, y14, y15, y16, ⟨y17, y18, y19⟩, y20, y21, y22⟩, y23, ⟨y24, y25, y26⟩, y27, y28⟩, y29, y30, y31, y32, y33, y34⟩ : S44) W hr1 hc1).mono fun e W' ⟨he, bel⟩ => ?_
  subst he
  exact ⟨_, rfl, _, _, _, [], _, [], hW', trodAll_mk1 (shut_bool Try.underlying4 _), (trodAll_cons_mk (Below.trod laidOut (by kernel_rfl) (of_decide_eq_true (by kernel_rfl)) k0 bel lt0) (trodAll_cons_mk (Below.trod laidOut (by kernel_rfl) (of_decide_eq_true (by kernel_rfl)) k1 bel lt1) (trodAll_cons_mk (Below.trod laidOut (by kernel_rfl) (of_decide_eq_true (by kernel_rfl)) k2 bel lt2) trodAll_mk0))), rfl, bel.frame _, fun h => by cases h⟩
theorem over : Rows.unitTimeRow.holds Try.pinned (OpenSpec.ofChange Rows.unitTimeSpec) :=
  OpenClaim.holds_of_wide 5 Try.f5 rfl rfl rfl rfl rfl rfl rfl ⟨rfl, rfl, rfl, rfl, rfl⟩ rfl rfl rfl rfl rfl (by kernel_rfl) Try.func5 (by kernel_rfl)
    (of_decide_eq_true (by kernel_rfl)) (by unfold Func.isWrapper; first | (rw [if_pos (by decide +kernel)]; kernel_rfl) | (rw [if_neg (by decide +kernel)]; exact ⟨rfl, rfl⟩))
    (fun os started H enc _ => lifted os started H enc)
theorem proved : Rows.UnitTimeSaid := over
#print axioms proved
end Go.Proofs.Ytbkjdikiepnhbaa.unitTime
namespace Go.Proofs.Ytbkjdikiepnhbaa
/-- The row, under a short name, for the claim. -/
theorem unitTime_holds : Rows.UnitTimeSaid := unitTime.proved
end Go.Proofs.Ytbkjdikiepnhbaa
