/- The row of WholeEarly: for every input the call returns true and leaves all as it was. No condition. -/
import Derived.Test.YtmpnnppgppoliaaRows
import Derived.Test.YtmpnnppgppoliaaEaML
import Derived.Test.YtmpnnppgppoliaaOpen
import Derived.WalkKit
import Derived.ProofKit
import Derived.OpenShut
import Derived.ShutString
import Derived.ChangeOld
import Derived.Below
import Derived.SizedLaws
namespace Go.Proofs.Ytmpnnppgppoliaa.wholeEarly
open Go.ChangeShapes Go.WideShapes Go.ChangeAt Go.RowKit
open Go.Proofs.Ytmpnnppgppoliaa.Open Go.Proofs.Ytmpnnppgppoliaa.Ea Go.Proofs.Ytmpnnppgppoliaa.Ld Go.Proofs.YtmpnnppgppoliaaW.PrintWords
set_option linter.unusedVariables false
theorem own : ownKnob Try.prog.godebug = none := by kernel_rfl
theorem laidOut : laidOutB Try.prog = true := by kernel_rfl
theorem wfu {x : Int} (h : (Lit.int .u32 x).wf = true) : 0 ≤ x ∧ x < 4294967296 := by
  have := Go.Proofs.Ytmpnnppgppoliaa.Plain.wf_u32 h
  omega
theorem wfu16 {x : Int} (h : (Lit.int .u16 x).wf = true) : 0 ≤ x ∧ x ≤ 65535 := by
  simpa [Lit.wf, IntKind.min, IntKind.max, IntKind.signed, IntKind.bits] using h
theorem wfu8 {x : Int} (h : (Lit.int .u8 x).wf = true) : 0 ≤ x := (Go.Proofs.Ytmpnnppgppoliaa.Plain.wf_u8 h).1
theorem dec8 {H : Type} {enc : TypeId × Value → H} {w : World} {base : Nat} {spare : Nat → Bool} {held : Bool} (W : World) (n : Nat) (cs : List Value) (x : DataW H × List MemPlace) (hl : cs.length = 1) (h : DataW.trod enc Try.prog w base spare held n 5 cs = some x) : ∃ p, (Kd.int .u8).K W p cs ∧ (0 ≤ p ∧ p < 256) := by
  match cs, hl with
  | [c], _ =>
    obtain ⟨p, rfl, hw⟩ := leaf_int Try.underlying5 ⟨n, _, h⟩
    have := Go.Proofs.Ytmpnnppgppoliaa.Plain.wf_u8 hw
    exact ⟨p, rfl, by omega⟩
theorem wfu8b {x : Int} (h : (Lit.int .u8 x).wf = true) : x < 256 := by
  have := (Go.Proofs.Ytmpnnppgppoliaa.Plain.wf_u8 h).2
  omega

theorem decA {H : Type} {enc : TypeId × Value → H} {w : World} {base : Nat} {spare : Nat → Bool} {held : Bool} (W : World) (n : Nat) (cs : List Value) (x : DataW H × List MemPlace) (hl : cs.length = 3) (h : DataW.trod enc Try.prog w base spare held n 34 cs = some x) : ∃ p, kA.K W p cs ∧ GoodA p := by
  obtain ⟨c0, e0, o0⟩ := leaves_get 3 34 [4, 5, 32] n cs x (by kernel_rfl) h 0 4 rfl
  obtain ⟨p0, rfl⟩ := leaf_bool Try.underlying4 o0
  obtain ⟨c1, e1, o1⟩ := leaves_get 3 34 [4, 5, 32] n cs x (by kernel_rfl) h 1 5 rfl
  obtain ⟨p1, rfl, w1⟩ := leaf_int Try.underlying5 o1
  obtain ⟨c2, e2, o2⟩ := leaves_get 3 34 [4, 5, 32] n cs x (by kernel_rfl) h 2 32 rfl
  obtain ⟨p2, rfl, w2⟩ := leaf_int Try.underlying32 o2
  match cs, hl with
  | [b0, b1, b2], _ => exact ⟨⟨p0, p1, p2⟩, by simp at e0 e1 e2; rw [e0, e1, e2]; exact kA_mk W _, ⟨wfu8 w1, wfu8b w1, wfu w2⟩⟩
set_option maxRecDepth 100000 in
theorem lifted (os : Os) (started : os.Started) (H : Type) (enc : TypeId × Value → H) :
    ReturnsInHanded {} Try.checked os 3 .any (Rows.wholeEarlySpec.pre6 enc Try.prog Try.f3 Rows.wholeEarlyRow.domain false) (Rows.wholeEarlySpec.post enc Try.prog Try.f3 false true false false) := by
  refine returnsInHanded_of_change_sized (C := Try.checked) own started (by kernel_rfl) Try.func3
    (ChangeSpec.witness6 (enc := enc) (C := Try.checked) false ⟨#[], #[.slice none 0 0, .slice none 0 0, .agg #[.int .u8 0, .int .u8 0, .int .u8 0, .int .u8 0, .int .u8 0, .int .u8 0, .int .u8 0, .int .u8 0, .int .u8 0, .int .u8 0, .int .u8 0, .int .u8 0, .int .u8 0, .int .u8 0, .int .u8 0, .int .u8 0, .int .u8 0, .int .u8 0, .int .u8 0, .int .u8 0, .int .u8 0, .int .u8 0, .int .u8 0, .int .u8 0, .int .u8 0, .int .u8 0, .int .u8 0, .int .u8 0, .int .u8 0, .int .u8 0, .int .u8 0, .int .u8 0]], []⟩ 8 (by kernel_rfl) (by kernel_rfl) (by kernel_rfl) (by kernel_rfl)) ?_
  intro W base args ds gs before hval0 hW hcnd hsz0 _
  have hval : ∀ (j : Nat) t v, Try.f3.params[j]? = some t → args[j]? = some v → Value.okWide Try.prog W .any base t v := hval0
  have hW' := hW
  obtain ⟨p, q, hA0, hV, rfl, hfz, hnd⟩ := hW
  have hA : DataW.TrodAll enc Try.prog W 0 (fun _ => true) true Try.f3.params.toList args.toList ds p := hA0
  rw [Try.params3] at hA hval
  obtain ⟨v0, vs0, d0, ds0, p0, q0, hargs, rfl, rfl, h0, r0⟩ := trodAll_cons hA
  obtain ⟨v1, vs1, d1, ds1, p1, q1, rfl, rfl, rfl, h1, r1⟩ := trodAll_cons r0
  obtain ⟨v2, vs2, d2, ds2, p2, q2, rfl, rfl, rfl, h2, r2⟩ := trodAll_cons r1
  obtain ⟨rfl, rfl, rfl⟩ := trodAll_nil r2
  obtain rfl : args = #[v0, v1, v2] := by cases args; simp_all
  obtain ⟨rfl, rfl⟩ := trodVars_none hV
  have k0 := h0
  have lt0 : ∀ x ∈ p0, x.block < W.heap.size := by obtain ⟨m, hm⟩ := k0; exact DataW.trod_lt m _ _ _ hm
  obtain ⟨A0, cap0, l0, rfl, hc0, hm0, hr0, hg0⟩ := open_row (R := (kA.K W)) (good := GoodA) 3 Try.underlying22 (by kernel_rfl) (fun n cs x hl h => decA W n cs x hl h) (okWide_slice Try.underlying22 (hval 0 22 v0 rfl rfl)) h0
  have k1 := h1
  have lt1 : ∀ x ∈ p1, x.block < W.heap.size := by obtain ⟨m, hm⟩ := k1; exact DataW.trod_lt m _ _ _ hm
  obtain ⟨A1, cap1, l1, rfl, hc1, hm1, hr1, hg1⟩ := open_row (R := ((Kd.int .u8).K W)) (good := fun v => 0 ≤ v ∧ v < 256) 1 Try.underlying23 (by kernel_rfl) (fun n cs x hl h => dec8 W n cs x hl h) (okWide_slice Try.underlying23 (hval 1 23 v1 rfl rfl)) h1
  have k2 := h2
  have lt2 : ∀ x ∈ p2, x.block < W.heap.size := by obtain ⟨m, hm⟩ := k2; exact DataW.trod_lt m _ _ _ hm
  obtain ⟨l2, rfl, hl2, hc2⟩ := cells_open [5, 5, 5, 5, 5, 5, 5, 5, 5, 5, 5, 5, 5, 5, 5, 5, 5, 5, 5, 5, 5, 5, 5, 5, 5, 5, 5, 5, 5, 5, 5, 5] (.inr ⟨_, _, Try.underlying24⟩) (by kernel_rfl) (by kernel_rfl) (hval 2 24 v2 rfl rfl)
  obtain _ | ⟨c2_0, l2⟩ := l2
  · simp at hl2
  obtain _ | ⟨c2_1, l2⟩ := l2
  · simp at hl2
  obtain _ | ⟨c2_2, l2⟩ := l2
  · simp at hl2
  obtain _ | ⟨c2_3, l2⟩ := l2
  · simp at hl2
  obtain _ | ⟨c2_4, l2⟩ := l2
  · simp at hl2
  obtain _ | ⟨c2_5, l2⟩ := l2
  · simp at hl2
  obtain _ | ⟨c2_6, l2⟩ := l2
  · simp at hl2
  obtain _ | ⟨c2_7, l2⟩ := l2
  · simp at hl2
  obtain _ | ⟨c2_8, l2⟩ := l2
  · simp at hl2
  obtain _ | ⟨c2_9, l2⟩ := l2
  · simp at hl2
  obtain _ | ⟨c2_10, l2⟩ := l2
  · simp at hl2
  obtain _ | ⟨c2_11, l2⟩ := l2
  · simp at hl2
  obtain _ | ⟨c2_12, l2⟩ := l2
  · simp at hl2
  obtain _ | ⟨c2_13, l2⟩ := l2
  · simp at hl2
  obtain _ | ⟨c2_14, l2⟩ := l2
  · simp at hl2
  obtain _ | ⟨c2_15, l2⟩ := l2
  · simp at hl2
  obtain _ | ⟨c2_16, l2⟩ := l2
  · simp at hl2
  obtain _ | ⟨c2_17, l2⟩ := l2
  · simp at hl2
  obtain _ | ⟨c2_18, l2⟩ := l2
  · simp at hl2
  obtain _ | ⟨c2_19, l2⟩ := l2
  · simp at hl2
  obtain _ | ⟨c2_20, l2⟩ := l2
  · simp at hl2
  obtain _ | ⟨c2_21, l2⟩ := l2
  · simp at hl2
  obtain _ | ⟨c2_22, l2⟩ := l2
  · simp at hl2
  obtain _ | ⟨c2_23, l2⟩ := l2
  · simp at hl2
  obtain _ | ⟨c2_24, l2⟩ := l2
  · simp at hl2
  obtain _ | ⟨c2_25, l2⟩ := l2
  · simp at hl2
  obtain _ | ⟨c2_26, l2⟩ := l2
  · simp at hl2
  obtain _ | ⟨c2_27, l2⟩ := l2
  · simp at hl2
  obtain _ | ⟨c2_28, l2⟩ := l2
  · simp at hl2
  obtain _ | ⟨c2_29, l2⟩ := l2
  · simp at hl2
  obtain _ | ⟨c2_30, l2⟩ := l2
  · simp at hl2
  obtain _ | ⟨c2_31, l2⟩ := l2
  · simp at hl2
  obtain _ | ⟨_, _⟩ := l2
  rotate_left
  · simp at hl2
  obtain ⟨c, e, o⟩ := hc2 0 5 rfl
  obtain rfl : c2_0 = c := by simpa using e
  obtain ⟨z0, rfl, wz0⟩ := cell_int Try.underlying5 o
  clear e
  obtain ⟨c, e, o⟩ := hc2 1 5 rfl
  obtain rfl : c2_1 = c := by simpa using e
  obtain ⟨z1, rfl, wz1⟩ := cell_int Try.underlying5 o
  clear e
  obtain ⟨c, e, o⟩ := hc2 2 5 rfl
  obtain rfl : c2_2 = c := by simpa using e
  obtain ⟨z2, rfl, wz2⟩ := cell_int Try.underlying5 o
  clear e
  obtain ⟨c, e, o⟩ := hc2 3 5 rfl
  obtain rfl : c2_3 = c := by simpa using e
  obtain ⟨z3, rfl, wz3⟩ := cell_int Try.underlying5 o
  clear e
  obtain ⟨c, e, o⟩ := hc2 4 5 rfl
  obtain rfl : c2_4 = c := by simpa using e
  obtain ⟨z4, rfl, wz4⟩ := cell_int Try.underlying5 o
  clear e
  obtain ⟨c, e, o⟩ := hc2 5 5 rfl
  obtain rfl : c2_5 = c := by simpa using e
  obtain ⟨z5, rfl, wz5⟩ := cell_int Try.underlying5 o
  clear e
  obtain ⟨c, e, o⟩ := hc2 6 5 rfl
  obtain rfl : c2_6 = c := by simpa using e
  obtain ⟨z6, rfl, wz6⟩ := cell_int Try.underlying5 o
  clear e
  obtain ⟨c, e, o⟩ := hc2 7 5 rfl
  obtain rfl : c2_7 = c := by simpa using e
  obtain ⟨z7, rfl, wz7⟩ := cell_int Try.underlying5 o
  clear e
  obtain ⟨c, e, o⟩ := hc2 8 5 rfl
  obtain rfl : c2_8 = c := by simpa using e
  obtain ⟨z8, rfl, wz8⟩ := cell_int Try.underlying5 o
  clear e
  obtain ⟨c, e, o⟩ := hc2 9 5 rfl
  obtain rfl : c2_9 = c := by simpa using e
  obtain ⟨z9, rfl, wz9⟩ := cell_int Try.underlying5 o
  clear e
  obtain ⟨c, e, o⟩ := hc2 10 5 rfl
  obtain rfl : c2_10 = c := by simpa using e
  obtain ⟨z10, rfl, wz10⟩ := cell_int Try.underlying5 o
  clear e
  obtain ⟨c, e, o⟩ := hc2 11 5 rfl
  obtain rfl : c2_11 = c := by simpa using e
  obtain ⟨z11, rfl, wz11⟩ := cell_int Try.underlying5 o
  clear e
  obtain ⟨c, e, o⟩ := hc2 12 5 rfl
  obtain rfl : c2_12 = c := by simpa using e
  obtain ⟨z12, rfl, wz12⟩ := cell_int Try.underlying5 o
  clear e
  obtain ⟨c, e, o⟩ := hc2 13 5 rfl
  obtain rfl : c2_13 = c := by simpa using e
  obtain ⟨z13, rfl, wz13⟩ := cell_int Try.underlying5 o
  clear e
  obtain ⟨c, e, o⟩ := hc2 14 5 rfl
  obtain rfl : c2_14 = c := by simpa using e
  obtain ⟨z14, rfl, wz14⟩ := cell_int Try.underlying5 o
  clear e
  obtain ⟨c, e, o⟩ := hc2 15 5 rfl
  obtain rfl : c2_15 = c := by simpa using e
  obtain ⟨z15, rfl, wz15⟩ := cell_int Try.underlying5 o
  clear e
  obtain ⟨c, e, o⟩ := hc2 16 5 rfl
  obtain rfl : c2_16 = c := by simpa using e
  obtain ⟨z16, rfl, wz16⟩ := cell_int Try.underlying5 o
  clear e
  obtain ⟨c, e, o⟩ := hc2 17 5 rfl
  obtain rfl : c2_17 = c := by simpa using e
  obtain ⟨z17, rfl, wz17⟩ := cell_int Try.underlying5 o
  clear e
  obtain ⟨c, e, o⟩ := hc2 18 5 rfl
  obtain rfl : c2_18 = c := by simpa using e
  obtain ⟨z18, rfl, wz18⟩ := cell_int Try.underlying5 o
  clear e
  obtain ⟨c, e, o⟩ := hc2 19 5 rfl
  obtain rfl : c2_19 = c := by simpa using e
  obtain ⟨z19, rfl, wz19⟩ := cell_int Try.underlying5 o
  clear e
  obtain ⟨c, e, o⟩ := hc2 20 5 rfl
  obtain rfl : c2_20 = c := by simpa using e
  obtain ⟨z20, rfl, wz20⟩ := cell_int Try.underlying5 o
  clear e
  obtain ⟨c, e, o⟩ := hc2 21 5 rfl
  obtain rfl : c2_21 = c := by simpa using e
  obtain ⟨z21, rfl, wz21⟩ := cell_int Try.underlying5 o
  clear e
  obtain ⟨c, e, o⟩ := hc2 22 5 rfl
  obtain rfl : c2_22 = c := by simpa using e
  obtain ⟨z22, rfl, wz22⟩ := cell_int Try.underlying5 o
  clear e
  obtain ⟨c, e, o⟩ := hc2 23 5 rfl
  obtain rfl : c2_23 = c := by simpa using e
  obtain ⟨z23, rfl, wz23⟩ := cell_int Try.underlying5 o
  clear e
  obtain ⟨c, e, o⟩ := hc2 24 5 rfl
  obtain rfl : c2_24 = c := by simpa using e
  obtain ⟨z24, rfl, wz24⟩ := cell_int Try.underlying5 o
  clear e
  obtain ⟨c, e, o⟩ := hc2 25 5 rfl
  obtain rfl : c2_25 = c := by simpa using e
  obtain ⟨z25, rfl, wz25⟩ := cell_int Try.underlying5 o
  clear e
  obtain ⟨c, e, o⟩ := hc2 26 5 rfl
  obtain rfl : c2_26 = c := by simpa using e
  obtain ⟨z26, rfl, wz26⟩ := cell_int Try.underlying5 o
  clear e
  obtain ⟨c, e, o⟩ := hc2 27 5 rfl
  obtain rfl : c2_27 = c := by simpa using e
  obtain ⟨z27, rfl, wz27⟩ := cell_int Try.underlying5 o
  clear e
  obtain ⟨c, e, o⟩ := hc2 28 5 rfl
  obtain rfl : c2_28 = c := by simpa using e
  obtain ⟨z28, rfl, wz28⟩ := cell_int Try.underlying5 o
  clear e
  obtain ⟨c, e, o⟩ := hc2 29 5 rfl
  obtain rfl : c2_29 = c := by simpa using e
  obtain ⟨z29, rfl, wz29⟩ := cell_int Try.underlying5 o
  clear e
  obtain ⟨c, e, o⟩ := hc2 30 5 rfl
  obtain rfl : c2_30 = c := by simpa using e
  obtain ⟨z30, rfl, wz30⟩ := cell_int Try.underlying5 o
  clear e
  obtain ⟨c, e, o⟩ := hc2 31 5 rfl
  obtain rfl : c2_31 = c := by simpa using e
  obtain ⟨z31, rfl, wz31⟩ := cell_int Try.underlying5 o
  clear e
  clear hA0 hval0 hsz0 hval
  refine (wholeEarly A0 cap0 l0 A1 cap1 l1 [z0, z1, z2, z3, z4, z5, z6, z7, z8, z9, z10, z11, z12, z13, z14, z15, z16, z17, z18, z19, z20, z21, z22, z23, z24, z25, z26, z27, z28, z29, z30, z31] W hr0 hr1 hg0 hg1 rfl).mono fun e W' ⟨he, bel⟩ => ?_
  subst he
  exact ⟨_, rfl, _, _, _, [], _, [], hW', trodAll_mk1 (shut_bool Try.underlying4 _), (trodAll_cons_mk (Below.trod laidOut (by kernel_rfl) (of_decide_eq_true (by kernel_rfl)) k0 bel lt0) (trodAll_cons_mk (Below.trod laidOut (by kernel_rfl) (of_decide_eq_true (by kernel_rfl)) k1 bel lt1) (trodAll_cons_mk (Below.trod laidOut (by kernel_rfl) (of_decide_eq_true (by kernel_rfl)) k2 bel lt2) trodAll_mk0))), rfl, bel.frame _, fun h => by cases h⟩
theorem over : Rows.wholeEarlyRow.holds Try.pinned (OpenSpec.ofChange Rows.wholeEarlySpec) :=
  OpenClaim.holds_of_wide 3 Try.f3 rfl rfl rfl rfl rfl rfl rfl ⟨rfl, rfl, rfl, rfl, rfl⟩ rfl rfl rfl rfl rfl (by kernel_rfl) Try.func3 (by kernel_rfl)
    (of_decide_eq_true (by kernel_rfl)) (by unfold Func.isWrapper; first | (rw [if_pos (by decide +kernel)]; kernel_rfl) | (rw [if_neg (by decide +kernel)]; exact ⟨rfl, rfl⟩))
    (fun os started H enc _ => lifted os started H enc)
theorem proved : Rows.WholeEarlySaid := over
#print axioms proved
end Go.Proofs.Ytmpnnppgppoliaa.wholeEarly
namespace Go.Proofs.Ytmpnnppgppoliaa
/-- The row, under a short name, for the claim. -/
theorem wholeEarly_holds : Rows.WholeEarlySaid := wholeEarly.proved
end Go.Proofs.Ytmpnnppgppoliaa
