/- The row of UnitRoom: for every input the call returns true and leaves all as it was. No condition. -/
import Derived.Test.YtbkjdikiepnhbaaRows
import Derived.Test.YtbkjdikiepnhbaaFlDec
import Derived.Test.YtbkjdikiepnhbaaFlK
import Derived.Test.YtbkjdikiepnhbaaOpen
import Derived.WalkKit
import Derived.ProofKit
import Derived.OpenShut
import Derived.ShutString
import Derived.ChangeOld
import Derived.Below
import Derived.SizedLaws
namespace Go.Proofs.Ytbkjdikiepnhbaa.unitRoom
open Go.ChangeShapes Go.WideShapes Go.ChangeAt Go.RowKit
open Go.Proofs.Ytbkjdikiepnhbaa.Open Go.Proofs.Ytbkjdikiepnhbaa.Fl Go.Proofs.YtbkjdikiepnhbaaW.PrintWords
set_option linter.unusedVariables false
theorem own : ownKnob Try.prog.godebug = none := by kernel_rfl
theorem laidOut : laidOutB Try.prog = true := by kernel_rfl
set_option maxRecDepth 100000 in
theorem lifted (os : Os) (started : os.Started) (H : Type) (enc : TypeId × Value → H) :
    ReturnsInHanded {} Try.checked os 3 .any (Rows.unitRoomSpec.pre6 enc Try.prog Try.f3 Rows.unitRoomRow.domain false) (Rows.unitRoomSpec.post enc Try.prog Try.f3 false true false false) := by
  refine returnsInHanded_of_change_sized (C := Try.checked) own started (by kernel_rfl) Try.func3
    (ChangeSpec.witness6 (enc := enc) (C := Try.checked) false ⟨#[], #[.agg #[.int .i64 0, .int .i64 0, .int .i64 0, .int .i64 0, .int .i64 0, .int .i64 0, .int .i64 0, .int .i64 0, .int .i64 0, .int .i64 0, .int .i64 0, .int .i64 0, .int .i64 0, .int .i64 0, .int .i64 0, .int .i64 0, .int .i64 0, .int .i64 0, .int .i64 0, .int .i64 0, .int .i64 0, .bool false], .slice none 0 0, .int .i64 0], []⟩ 8 (by kernel_rfl) (by kernel_rfl) (by kernel_rfl) (by kernel_rfl)) ?_
  intro W base args ds gs before hval0 hW hcnd hsz0 _
  have hval : ∀ (j : Nat) t v, Try.f3.params[j]? = some t → args[j]? = some v → Value.okWide Try.prog W .any base t v := hval0
  have hW' := hW
  obtain ⟨p, q, hA0, hV, rfl, hfz, hnd⟩ := hW
  have hA : DataW.TrodAll enc Try.prog W 0 (fun _ => true) true Try.f3.params.toList args.toList ds p := hA0
  rw [Try.params3] at hA hval
  obtain ⟨v0, vs0, d0, ds0, p0, q0, hargs, rfl, rfl, h0, r0⟩ := trodAll_cons hA
  obtain ⟨v1, vs1, d1, ds1, p1, q1, rfl, rfl, rfl, h1, r1⟩ := trodAll_cons r0
  obtain ⟨v2, vs2, d2, ds2, p2, q2, rfl, rfl, rfl, h2, r2⟩ := trodAll_cons r1
  obtain ⟨rfl, rfl, rfl⟩ := trodAll_nil r2
  obtain rfl : args = #[v0, v1, v2] := by cases args; simp_all
  obtain ⟨rfl, rfl⟩ := trodVars_none hV
  have k0 := h0
  have lt0 : ∀ x ∈ p0, x.block < W.heap.size := by obtain ⟨m, hm⟩ := k0; exact DataW.trod_lt m _ _ _ hm
  obtain ⟨l0, rfl, hl0, hc0⟩ := cells_open [3, 3, 3, 3, 3, 3, 3, 3, 3, 3, 3, 3, 3, 3, 3, 3, 3, 3, 3, 3, 3, 4] (.inl ⟨_, Try.underlying23⟩) (by kernel_rfl) (by kernel_rfl) (hval 0 23 v0 rfl rfl)
  obtain _ | ⟨c0_0, l0⟩ := l0
  · simp at hl0
  obtain _ | ⟨c0_1, l0⟩ := l0
  · simp at hl0
  obtain _ | ⟨c0_2, l0⟩ := l0
  · simp at hl0
  obtain _ | ⟨c0_3, l0⟩ := l0
  · simp at hl0
  obtain _ | ⟨c0_4, l0⟩ := l0
  · simp at hl0
  obtain _ | ⟨c0_5, l0⟩ := l0
  · simp at hl0
  obtain _ | ⟨c0_6, l0⟩ := l0
  · simp at hl0
  obtain _ | ⟨c0_7, l0⟩ := l0
  · simp at hl0
  obtain _ | ⟨c0_8, l0⟩ := l0
  · simp at hl0
  obtain _ | ⟨c0_9, l0⟩ := l0
  · simp at hl0
  obtain _ | ⟨c0_10, l0⟩ := l0
  · simp at hl0
  obtain _ | ⟨c0_11, l0⟩ := l0
  · simp at hl0
  obtain _ | ⟨c0_12, l0⟩ := l0
  · simp at hl0
  obtain _ | ⟨c0_13, l0⟩ := l0
  · simp at hl0
  obtain _ | ⟨c0_14, l0⟩ := l0
  · simp at hl0
  obtain _ | ⟨c0_15, l0⟩ := l0
  · simp at hl0
  obtain _ | ⟨c0_16, l0⟩ := l0
  · simp at hl0
  obtain _ | ⟨c0_17, l0⟩ := l0
  · simp at hl0
  obtain _ | ⟨c0_18, l0⟩ := l0
  · simp at hl0
  obtain _ | ⟨c0_19, l0⟩ := l0
  · simp at hl0
  obtain _ | ⟨c0_20, l0⟩ := l0
  · simp at hl0
  obtain _ | ⟨c0_21, l0⟩ := l0
  · simp at hl0
  obtain _ | ⟨_, _⟩ := l0
  rotate_left
  · simp at hl0
  obtain ⟨c, e, o⟩ := hc0 0 3 rfl
  obtain rfl : c0_0 = c := by simpa using e
  obtain ⟨x0, rfl, wx0⟩ := cell_int Try.underlying3 o
  clear e
  obtain ⟨c, e, o⟩ := hc0 1 3 rfl
  obtain rfl : c0_1 = c := by simpa using e
  obtain ⟨x1, rfl, wx1⟩ := cell_int Try.underlying3 o
  clear e
  obtain ⟨c, e, o⟩ := hc0 2 3 rfl
  obtain rfl : c0_2 = c := by simpa using e
  obtain ⟨x2, rfl, wx2⟩ := cell_int Try.underlying3 o
  clear e
  obtain ⟨c, e, o⟩ := hc0 3 3 rfl
  obtain rfl : c0_3 = c := by simpa using e
  obtain ⟨x3, rfl, wx3⟩ := cell_int Try.underlying3 o
  clear e
  obtain ⟨c, e, o⟩ := hc0 4 3 rfl
  obtain rfl : c0_4 = c := by simpa using e
  obtain ⟨x4, rfl, wx4⟩ := cell_int Try.underlying3 o
  clear e
  obtain ⟨c, e, o⟩ := hc0 5 3 rfl
  obtain rfl : c0_5 = c := by simpa using e
  obtain ⟨x5, rfl, wx5⟩ := cell_int Try.underlying3 o
  clear e
  obtain ⟨c, e, o⟩ := hc0 6 3 rfl
  obtain rfl : c0_6 = c := by simpa using e
  obtain ⟨x6, rfl, wx6⟩ := cell_int Try.underlying3 o
  clear e
  obtain ⟨c, e, o⟩ := hc0 7 3 rfl
  obtain rfl : c0_7 = c := by simpa using e
  obtain ⟨x7, rfl, wx7⟩ := cell_int Try.underlying3 o
  clear e
  obtain ⟨c, e, o⟩ := hc0 8 3 rfl
  obtain rfl : c0_8 = c := by simpa using e
  obtain ⟨x8, rfl, wx8⟩ := cell_int Try.underlying3 o
  clear e
  obtain ⟨c, e, o⟩ := hc0 9 3 rfl
  obtain rfl : c0_9 = c := by simpa using e
  obtain ⟨x9, rfl, wx9⟩ := cell_int Try.underlying3 o
  clear e
  obtain ⟨c, e, o⟩ := hc0 10 3 rfl
  obtain rfl : c0_10 = c := by simpa using e
  obtain ⟨x10, rfl, wx10⟩ := cell_int Try.underlying3 o
  clear e
  obtain ⟨c, e, o⟩ := hc0 11 3 rfl
  obtain rfl : c0_11 = c := by simpa using e
  obtain ⟨x11, rfl, wx11⟩ := cell_int Try.underlying3 o
  clear e
  obtain ⟨c, e, o⟩ := hc0 12 3 rfl
  obtain rfl : c0_12 = c := by simpa using e
  obtain ⟨x12, rfl, wx12⟩ := cell_int Try.underlying3 o
  clear e
  obtain ⟨c, e, o⟩ := hc0 13 3 rfl
  obtain rfl : c0_13 = c := by simpa using e
  obtain ⟨x13, rfl, wx13⟩ := cell_int Try.underlying3 o
  clear e
  obtain ⟨c, e, o⟩ := hc0 14 3 rfl
  obtain rfl : c0_14 = c := by simpa using e
  obtain ⟨x14, rfl, wx14⟩ := cell_int Try.underlying3 o
  clear e
  obtain ⟨c, e, o⟩ := hc0 15 3 rfl
  obtain rfl : c0_15 = c := by simpa using e
  obtain ⟨x15, rfl, wx15⟩ := cell_int Try.underlying3 o
  clear e
  obtain ⟨c, e, o⟩ := hc0 16 3 rfl
  obtain rfl : c0_16 = c := by simpa using e
  obtain ⟨x16, rfl, wx16⟩ := cell_int Try.underlying3 o
  clear e
  obtain ⟨c, e, o⟩ := hc0 17 3 rfl
  obtain rfl : c0_17 = c := by simpa using e
  obtain ⟨x17, rfl, wx17⟩ := cell_int Try.underlying3 o
  clear e
  obtain ⟨c, e, o⟩ := hc0 18 3 rfl
  obtain rfl : c0_18 = c := by simpa using e
  obtain ⟨x18, rfl, wx18⟩ := cell_int Try.underlying3 o
  clear e
  obtain ⟨c, e, o⟩ := hc0 19 3 rfl
  obtain rfl : c0_19 = c := by simpa using e
  obtain ⟨x19, rfl, wx19⟩ := cell_int Try.underlying3 o
  clear e
  obtain ⟨c, e, o⟩ := hc0 20 3 rfl
  obtain rfl : c0_20 = c := by simpa using e
  obtain ⟨x20, rfl, wx20⟩ := cell_int Try.underlying3 o
  clear e
  obtain ⟨c, e, o⟩ := hc0 21 4 rfl
  obtain rfl : c0_21 = c := by simpa using e
  obtain ⟨x21, rfl⟩ := cell_bool Try.underlying4 o
  clear e
  have k1 := h1
  have lt1 : ∀ x ∈ p1, x.block < W.heap.size := by obtain ⟨m, hm⟩ := k1; exact DataW.trod_lt m _ _ _ hm
  obtain ⟨A1, cap1, l1, rfl, hc1, hm1, hr1, hg1⟩ := open_row (R := (k44.K W)) (good := G44) 35 Try.underlying24 (by kernel_rfl) (fun n cs x hl h => dec44 W n cs x hl h) (okWide_slice Try.underlying24 (hval 1 24 v1 rfl rfl)) h1
  obtain ⟨a2, rfl, rfl, rfl, w2⟩ := open_int Try.underlying3 (hval 2 3 v2 rfl rfl) h2
  clear hA0 hval0 hsz0 hval
  refine (unitRoom (⟨[.int .i64 x0, .int .i64 x1, .int .i64 x2, .int .i64 x3, .int .i64 x4, .int .i64 x5, .int .i64 x6, .int .i64 x7, .int .i64 x8, .int .i64 x9, .int .i64 x10, .int .i64 x11, .int .i64 x12, .int .i64 x13, .int .i64 x14, .int .i64 x15, .int .i64 x16, .int .i64 x17, .int .i64 x18, .int .i64 x19, .int .i64 x20, .bool x21], rfl, by simp [Value.oneCell'], rfl, rfl⟩ : Cf x16 x17) A1 cap1 l1 a2 W hr1 hc1).mono fun e W' ⟨he, bel⟩ => ?_
  subst he
  exact ⟨_, rfl, _, _, _, [], _, [], hW', trodAll_mk1 (shut_bool Try.underlying4 _), (trodAll_cons_mk (Below.trod laidOut (by kernel_rfl) (of_decide_eq_true (by kernel_rfl)) k0 bel lt0) (trodAll_cons_mk (Below.trod laidOut (by kernel_rfl) (of_decide_eq_true (by kernel_rfl)) k1 bel lt1) (trodAll_cons_mk (shut_int Try.underlying3 w2) trodAll_mk0))), rfl, bel.frame _, fun h => by cases h⟩
theorem over : Rows.unitRoomRow.holds Try.pinned (OpenSpec.ofChange Rows.unitRoomSpec) :=
  OpenClaim.holds_of_wide 3 Try.f3 rfl rfl rfl rfl rfl rfl rfl ⟨rfl, rfl, rfl, rfl, rfl⟩ rfl rfl rfl rfl rfl (by kernel_rfl) Try.func3 (by kernel_rfl)
    (of_decide_eq_true (by kernel_rfl)) (by unfold Func.isWrapper; first | (rw [if_pos (by decide +kernel)]; kernel_rfl) | (rw [if_neg (by decide +kernel)]; exact ⟨rfl, rfl⟩))
    (fun os started H enc _ => lifted os started H enc)
theorem proved : Rows.UnitRoomSaid := over
#print axioms proved
end Go.Proofs.Ytbkjdikiepnhbaa.unitRoom
namespace Go.Proofs.Ytbkjdikiepnhbaa
/-- The row, under a short name, for the claim. -/
theorem unitRoom_holds : Rows.UnitRoomSaid := unitRoom.proved
end Go.Proofs.Ytbkjdikiepnhbaa
