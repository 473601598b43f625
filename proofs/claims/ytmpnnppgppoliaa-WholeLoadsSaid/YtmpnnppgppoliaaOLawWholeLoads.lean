/- The row of WholeLoads: for every input the call returns true and leaves all as it was. No condition. -/
import Derived.Test.YtmpnnppgppoliaaRows
import Derived.Test.YtmpnnppgppoliaaLdN
import Derived.Test.YtmpnnppgppoliaaOpen
import Derived.WalkKit
import Derived.ProofKit
import Derived.OpenShut
import Derived.ShutString
import Derived.ChangeOld
import Derived.Below
import Derived.SizedLaws
namespace Go.Proofs.Ytmpnnppgppoliaa.wholeLoads
open Go.ChangeShapes Go.WideShapes Go.ChangeAt Go.RowKit
open Go.Proofs.Ytmpnnppgppoliaa.Open Go.Proofs.Ytmpnnppgppoliaa.Ld Go.Proofs.YtmpnnppgppoliaaW.PrintWords
set_option linter.unusedVariables false
theorem own : ownKnob Try.prog.godebug = none := by kernel_rfl
theorem laidOut : laidOutB Try.prog = true := by kernel_rfl
theorem wfu {x : Int} (h : (Lit.int .u32 x).wf = true) : 0 ≤ x ∧ x < 4294967296 := by
  have := Go.Proofs.Ytmpnnppgppoliaa.Plain.wf_u32 h
  omega
theorem wfu16 {x : Int} (h : (Lit.int .u16 x).wf = true) : 0 ≤ x ∧ x ≤ 65535 := by
  simpa [Lit.wf, IntKind.min, IntKind.max, IntKind.signed, IntKind.bits] using h
theorem wfu8 {x : Int} (h : (Lit.int .u8 x).wf = true) : 0 ≤ x := (Go.Proofs.Ytmpnnppgppoliaa.Plain.wf_u8 h).1
theorem decD {H : Type} {enc : TypeId × Value → H} {w : World} {base : Nat} {spare : Nat → Bool} {held : Bool} (W : World) (n : Nat) (cs : List Value) (x : DataW H × List MemPlace) (hl : cs.length = 4) (h : DataW.trod enc Try.prog w base spare held n 53 cs = some x) : ∃ p, kD.K W p cs ∧ GoodD p := by
  obtain ⟨c0, e0, o0⟩ := leaves_get 3 53 [5, 5, 51, 32] n cs x (by kernel_rfl) h 0 5 rfl
  obtain ⟨p0, rfl, w0⟩ := leaf_int Try.underlying5 o0
  obtain ⟨c1, e1, o1⟩ := leaves_get 3 53 [5, 5, 51, 32] n cs x (by kernel_rfl) h 1 5 rfl
  obtain ⟨p1, rfl, w1⟩ := leaf_int Try.underlying5 o1
  obtain ⟨c2, e2, o2⟩ := leaves_get 3 53 [5, 5, 51, 32] n cs x (by kernel_rfl) h 2 51 rfl
  obtain ⟨p2, rfl, w2⟩ := leaf_int Try.underlying51 o2
  obtain ⟨c3, e3, o3⟩ := leaves_get 3 53 [5, 5, 51, 32] n cs x (by kernel_rfl) h 3 32 rfl
  obtain ⟨p3, rfl, w3⟩ := leaf_int Try.underlying32 o3
  match cs, hl with
  | [b0, b1, b2, b3], _ => exact ⟨⟨p0, p1, p2, p3⟩, by simp at e0 e1 e2 e3; rw [e0, e1, e2, e3]; exact kD_mk W _, ⟨wfu8 w1, (wfu16 w2).1, (wfu16 w2).2, wfu w3⟩⟩
set_option maxRecDepth 100000 in
theorem lifted (os : Os) (started : os.Started) (H : Type) (enc : TypeId × Value → H) :
    ReturnsInHanded {} Try.checked os 4 .any (Rows.wholeLoadsSpec.pre6 enc Try.prog Try.f4 Rows.wholeLoadsRow.domain false) (Rows.wholeLoadsSpec.post enc Try.prog Try.f4 false true false false) := by
  refine returnsInHanded_of_change_sized (C := Try.checked) own started (by kernel_rfl) Try.func4
    (ChangeSpec.witness6 (enc := enc) (C := Try.checked) false ⟨#[], #[.slice none 0 0], []⟩ 8 (by kernel_rfl) (by kernel_rfl) (by kernel_rfl) (by kernel_rfl)) ?_
  intro W base args ds gs before hval0 hW hcnd hsz0 _
  have hval : ∀ (j : Nat) t v, Try.f4.params[j]? = some t → args[j]? = some v → Value.okWide Try.prog W .any base t v := hval0
  have hW' := hW
  obtain ⟨p, q, hA0, hV, rfl, hfz, hnd⟩ := hW
  have hA : DataW.TrodAll enc Try.prog W 0 (fun _ => true) true Try.f4.params.toList args.toList ds p := hA0
  rw [Try.params4] at hA hval
  obtain ⟨v0, vs0, d0, ds0, p0, q0, hargs, rfl, rfl, h0, r0⟩ := trodAll_cons hA
  obtain ⟨rfl, rfl, rfl⟩ := trodAll_nil r0
  obtain rfl : args = #[v0] := by cases args; simp_all
  obtain ⟨rfl, rfl⟩ := trodVars_none hV
  have k0 := h0
  have lt0 : ∀ x ∈ p0, x.block < W.heap.size := by obtain ⟨m, hm⟩ := k0; exact DataW.trod_lt m _ _ _ hm
  obtain ⟨A0, cap0, l0, rfl, hc0, hm0, hr0, hg0⟩ := open_row (R := (kD.K W)) (good := GoodD) 4 Try.underlying49 (by kernel_rfl) (fun n cs x hl h => decD W n cs x hl h) (okWide_slice Try.underlying49 (hval 0 49 v0 rfl rfl)) h0
  clear hA0 hval0 hsz0 hval
  refine (wholeLoads A0 cap0 l0 W hr0 hg0).mono fun e W' ⟨he, bel⟩ => ?_
  subst he
  exact ⟨_, rfl, _, _, _, [], _, [], hW', trodAll_mk1 (shut_bool Try.underlying4 _), (trodAll_cons_mk (Below.trod laidOut (by kernel_rfl) (of_decide_eq_true (by kernel_rfl)) k0 bel lt0) trodAll_mk0), rfl, bel.frame _, fun h => by cases h⟩
theorem over : Rows.wholeLoadsRow.holds Try.pinned (OpenSpec.ofChange Rows.wholeLoadsSpec) :=
  OpenClaim.holds_of_wide 4 Try.f4 rfl rfl rfl rfl rfl rfl rfl ⟨rfl, rfl, rfl, rfl, rfl⟩ rfl rfl rfl rfl rfl (by kernel_rfl) Try.func4 (by kernel_rfl)
    (of_decide_eq_true (by kernel_rfl)) (by unfold Func.isWrapper; first | (rw [if_pos (by decide +kernel)]; kernel_rfl) | (rw [if_neg (by decide +kernel)]; exact ⟨rfl, rfl⟩))
    (fun os started H enc _ => lifted os started H enc)
theorem proved : Rows.WholeLoadsSaid := over
#print axioms proved
end Go.Proofs.Ytmpnnppgppoliaa.wholeLoads
namespace Go.Proofs.Ytmpnnppgppoliaa
/-- The row, under a short name, for the claim. -/
theorem wholeLoads_holds : Rows.WholeLoadsSaid := wholeLoads.proved
end Go.Proofs.Ytmpnnppgppoliaa
