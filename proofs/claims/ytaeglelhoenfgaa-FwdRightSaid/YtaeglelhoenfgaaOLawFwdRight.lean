/- The row of FwdRight: for every input the call returns true and leaves all as it was. No condition. -/
import Derived.Test.YtaeglelhoenfgaaRows
import Derived.Test.YtaeglelhoenfgaaFwdP5
import Derived.Test.YtaeglelhoenfgaaOpen
import Derived.WalkKit
import Derived.ProofKit
import Derived.OpenShut
import Derived.ShutString
import Derived.ChangeOld
import Derived.Below
import Derived.SizedLaws
namespace Go.Proofs.Ytaeglelhoenfgaa.fwdRight
open Go.ChangeShapes Go.WideShapes Go.ChangeAt Go.RowKit
open Go.Proofs.Ytaeglelhoenfgaa.Open Go.Proofs.Ytaeglelhoenfgaa.PFwd Go.Proofs.YtaeglelhoenfgaaW.PrintWords Go.Proofs.Ytaeglelhoenfgaa.PFwd.Right
set_option linter.unusedVariables false
theorem own : ownKnob Try.prog.godebug = none := by kernel_rfl
theorem laidOut : laidOutB Try.prog = true := by kernel_rfl
theorem wfu {x : Int} (h : (Lit.int .u32 x).wf = true) : 0 ≤ x ∧ x < 4294967296 := by
  have := Go.Proofs.Ytaeglelhoenfgaa.Plain.wf_u32 h
  omega
theorem dec37 {H : Type} {enc : TypeId × Value → H} {w : World} {base : Nat} {spare : Nat → Bool} {held : Bool} (W : World) (n : Nat) (cs : List Value) (x : DataW H × List MemPlace) (hl : cs.length = 5) (h : DataW.trod enc Try.prog w base spare held n 37 cs = some x) : ∃ p, k37.K W p cs ∧ W37 p := by
  obtain ⟨c0, e0, o0⟩ := leaves_get 3 37 [22, 23, 23, 3, 4] n cs x (by kernel_rfl) h 0 22 rfl
  obtain ⟨p0, rfl, w0⟩ := leaf_int Try.underlying22 o0
  obtain ⟨c1, e1, o1⟩ := leaves_get 3 37 [22, 23, 23, 3, 4] n cs x (by kernel_rfl) h 1 23 rfl
  obtain ⟨p1, rfl, w1⟩ := leaf_int Try.underlying23 o1
  obtain ⟨c2, e2, o2⟩ := leaves_get 3 37 [22, 23, 23, 3, 4] n cs x (by kernel_rfl) h 2 23 rfl
  obtain ⟨p2, rfl, w2⟩ := leaf_int Try.underlying23 o2
  obtain ⟨c3, e3, o3⟩ := leaves_get 3 37 [22, 23, 23, 3, 4] n cs x (by kernel_rfl) h 3 3 rfl
  obtain ⟨p3, rfl, w3⟩ := leaf_int Try.underlying3 o3
  obtain ⟨c4, e4, o4⟩ := leaves_get 3 37 [22, 23, 23, 3, 4] n cs x (by kernel_rfl) h 4 4 rfl
  obtain ⟨p4, rfl⟩ := leaf_bool Try.underlying4 o4
  match cs, hl with
  | [b0, b1, b2, b3, b4], _ => exact ⟨⟨p0, p1, p2, p3, p4⟩, by simp at e0 e1 e2 e3 e4; rw [e0, e1, e2, e3, e4]; exact k37_mk W _, ⟨wfu w1, wfu w2⟩⟩
theorem dec48 {H : Type} {enc : TypeId × Value → H} {w : World} {base : Nat} {spare : Nat → Bool} {held : Bool} (W : World) (n : Nat) (cs : List Value) (x : DataW H × List MemPlace) (hl : cs.length = 3) (h : DataW.trod enc Try.prog w base spare held n 52 cs = some x) : ∃ p, k48.K W p cs ∧ W48 p := by
  obtain ⟨c0, e0, o0⟩ := leaves_get 3 52 [23, 23, 3] n cs x (by kernel_rfl) h 0 23 rfl
  obtain ⟨p0, rfl, w0⟩ := leaf_int Try.underlying23 o0
  obtain ⟨c1, e1, o1⟩ := leaves_get 3 52 [23, 23, 3] n cs x (by kernel_rfl) h 1 23 rfl
  obtain ⟨p1, rfl, w1⟩ := leaf_int Try.underlying23 o1
  obtain ⟨c2, e2, o2⟩ := leaves_get 3 52 [23, 23, 3] n cs x (by kernel_rfl) h 2 3 rfl
  obtain ⟨p2, rfl, w2⟩ := leaf_int Try.underlying3 o2
  match cs, hl with
  | [b0, b1, b2], _ => exact ⟨⟨p0, p1, p2⟩, by simp at e0 e1 e2; rw [e0, e1, e2]; exact k48_mk W _, ⟨wfu w0, wfu w1⟩⟩
set_option maxRecDepth 100000 in
theorem lifted (os : Os) (started : os.Started) (H : Type) (enc : TypeId × Value → H) :
    ReturnsInHanded {} Try.checked os 7 .any (Rows.fwdRightSpec.pre6 enc Try.prog Try.f7 Rows.fwdRightRow.domain false) (Rows.fwdRightSpec.post enc Try.prog Try.f7 false true false false) := by
  refine returnsInHanded_of_change_sized (C := Try.checked) own started (by kernel_rfl) Try.func7
    (ChangeSpec.witness6 (enc := enc) (C := Try.checked) false ⟨#[], #[.slice none 0 0, .slice none 0 0, .agg #[.int .u64 0, .int .u32 0, .int .i64 0]], []⟩ 8 (by kernel_rfl) (by kernel_rfl) (by kernel_rfl) (by kernel_rfl)) ?_
  intro W base args ds gs before hval0 hW hcnd hsz0 _
  have hval : ∀ (j : Nat) t v, Try.f7.params[j]? = some t → args[j]? = some v → Value.okWide Try.prog W .any base t v := hval0
  have hW' := hW
  obtain ⟨p, q, hA0, hV, rfl, hfz, hnd⟩ := hW
  have hA : DataW.TrodAll enc Try.prog W 0 (fun _ => true) true Try.f7.params.toList args.toList ds p := hA0
  rw [Try.params7] at hA hval
  obtain ⟨v0, vs0, d0, ds0, p0, q0, hargs, rfl, rfl, h0, r0⟩ := trodAll_cons hA
  obtain ⟨v1, vs1, d1, ds1, p1, q1, rfl, rfl, rfl, h1, r1⟩ := trodAll_cons r0
  obtain ⟨v2, vs2, d2, ds2, p2, q2, rfl, rfl, rfl, h2, r2⟩ := trodAll_cons r1
  obtain ⟨rfl, rfl, rfl⟩ := trodAll_nil r2
  obtain rfl : args = #[v0, v1, v2] := by cases args; simp_all
  obtain ⟨rfl, rfl⟩ := trodVars_none hV
  have k0 := h0
  have lt0 : ∀ x ∈ p0, x.block < W.heap.size := by obtain ⟨m, hm⟩ := k0; exact DataW.trod_lt m _ _ _ hm
  obtain ⟨A0, cap0, l0, rfl, hc0, hm0, hr0, hg0⟩ := open_row (R := (k37.K W)) (good := W37) 5 Try.underlying30 (by kernel_rfl) (fun n cs x hl h => dec37 W n cs x hl h) (okWide_slice Try.underlying30 (hval 0 30 v0 rfl rfl)) h0
  have k1 := h1
  have lt1 : ∀ x ∈ p1, x.block < W.heap.size := by obtain ⟨m, hm⟩ := k1; exact DataW.trod_lt m _ _ _ hm
  obtain ⟨A1, cap1, l1, rfl, hc1, hm1, hr1, hg1⟩ := open_row (R := (k48.K W)) (good := W48) 3 Try.underlying31 (by kernel_rfl) (fun n cs x hl h => dec48 W n cs x hl h) (okWide_slice Try.underlying31 (hval 1 31 v1 rfl rfl)) h1
  have k2 := h2
  have lt2 : ∀ x ∈ p2, x.block < W.heap.size := by obtain ⟨m, hm⟩ := k2; exact DataW.trod_lt m _ _ _ hm
  obtain ⟨l2, rfl, hl2, hc2⟩ := cells_open [22, 23, 3] (.inl ⟨_, Try.underlying25⟩) (by kernel_rfl) (by kernel_rfl) (hval 2 25 v2 rfl rfl)
  obtain _ | ⟨c2_0, l2⟩ := l2
  · simp at hl2
  obtain _ | ⟨c2_1, l2⟩ := l2
  · simp at hl2
  obtain _ | ⟨c2_2, l2⟩ := l2
  · simp at hl2
  obtain _ | ⟨_, _⟩ := l2
  rotate_left
  · simp at hl2
  obtain ⟨c, e, o⟩ := hc2 0 22 rfl
  obtain rfl : c2_0 = c := by simpa using e
  obtain ⟨x0, rfl, wx0⟩ := cell_int Try.underlying22 o
  clear e
  obtain ⟨c, e, o⟩ := hc2 1 23 rfl
  obtain rfl : c2_1 = c := by simpa using e
  obtain ⟨x1, rfl, wx1⟩ := cell_int Try.underlying23 o
  clear e
  obtain ⟨c, e, o⟩ := hc2 2 3 rfl
  obtain rfl : c2_2 = c := by simpa using e
  obtain ⟨x2, rfl, wx2⟩ := cell_int Try.underlying3 o
  clear e
  clear hA0 hval0 hsz0 hval
  refine (cotterellaw34_FwdRight.calls _ A0 cap0 l0 A1 cap1 l1 x0 x1 x2 true W hr0 hc0 hr1 hc1 (right_pure l0 l1 hg0 hg1 x0 x1 x2 (wfu wx1)).choose_spec).mono fun e W' ⟨he, bel⟩ => ?_
  subst he
  exact ⟨_, rfl, _, _, _, [], _, [], hW', trodAll_mk1 (shut_bool Try.underlying4 _), (trodAll_cons_mk (Below.trod laidOut (by kernel_rfl) (of_decide_eq_true (by kernel_rfl)) k0 bel lt0) (trodAll_cons_mk (Below.trod laidOut (by kernel_rfl) (of_decide_eq_true (by kernel_rfl)) k1 bel lt1) (trodAll_cons_mk (Below.trod laidOut (by kernel_rfl) (of_decide_eq_true (by kernel_rfl)) k2 bel lt2) trodAll_mk0))), rfl, bel.frame _, fun h => by cases h⟩
theorem over : Rows.fwdRightRow.holds Try.pinned (OpenSpec.ofChange Rows.fwdRightSpec) :=
  OpenClaim.holds_of_wide 7 Try.f7 rfl rfl rfl rfl rfl rfl rfl ⟨rfl, rfl, rfl, rfl, rfl⟩ rfl rfl rfl rfl rfl (by kernel_rfl) Try.func7 (by kernel_rfl)
    (of_decide_eq_true (by kernel_rfl)) (by unfold Func.isWrapper; first | (rw [if_pos (by decide +kernel)]; kernel_rfl) | (rw [if_neg (by decide +kernel)]; exact ⟨rfl, rfl⟩))
    (fun os started H enc _ => lifted os started H enc)
theorem proved : Rows.FwdRightSaid := over
#print axioms proved
end Go.Proofs.Ytaeglelhoenfgaa.fwdRight
namespace Go.Proofs.Ytaeglelhoenfgaa
/-- The row, under a short name, for the claim. -/
theorem fwdRight_holds : Rows.FwdRightSaid := fwdRight.proved
end Go.Proofs.Ytaeglelhoenfgaa
